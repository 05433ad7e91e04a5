/- Known calls of one closed run, each reckoned by itself; by program (genknow.py). -/
import Derived.KernelRfl
import Derived.WideKeyArgs
import Derived.ChangeSame
import Derived.ChangeArms
import Derived.OpenShut
import Derived.Carry
import Derived.Test.YtggdmadjpakkbaaGreatFairNamesPj
import Derived.Test.YtggdmadjpakkbaaGreatFairNamesPf
section
namespace Go.Proofs
open Go.Tm
set_option maxRecDepth 100000

def Tryz.eF46 : Ent := ⟨145, [.ptr 581 0, .agg [.int .u8 1, .int .i64 0, .int .i64 0, .int .i64 0, .int .i64 0, .int .i64 0, .int .u8 0, .int .i64 0, .imm 0 [] 0, .int .i64 0, .str [], .str [], .int .i64 0, .int .i64 0, .imm 0 [] 0, .int .i64 0, .int .i64 0, .int .i64 0]],
 [(1790, .arr 5 1 true [.int .u8 4, .int .u8 1, .int .u8 0, .int .u8 1, .int .u8 8, .int .u8 12, .int .u8 2, .int .u8 0, .int .u8 1, .int .u8 8, .int .u8 7, .int .u8 1, .int .u8 0, .int .u8 1, .int .u8 0, .int .u8 0, .int .u8 0, .int .u8 0, .int .u8 11, .int .u8 3, .int .u8 0, .int .u8 1, .int .u8 7, .int .u8 1, .int .u8 0, .int .u8 1, .int .u8 0, .int .u8 0, .int .u8 0, .int .u8 0]),
  (1805, .arr 9 1 true [.str [1, 0, 1, 0, 0, 0, 0]]),
  (1804, .arr 3 1 true [.int .i64 0]),
  (1803, .arr 3 1 true [.int .i64 0]),
  (1809, .arr 61 15 false [.agg [.int .i64 0, .int .i64 0, .ref 1803 1 0 1 none, .ref 1804 1 0 1 none, .ref 1805 1 0 1 none, .imm 5 [] 9, .int .u8 0, .int .i64 0, .imm 0 [] 0, .str [], .str [], .imm 0 [] 0, .imm 0 [] 0, .imm 1 [] 9, .int .i64 0]]),
  (1797, .arr 3 1 true [.int .i64 0]),
  (1796, .arr 3 1 true [.int .i64 0]),
  (1799, .arr 56 2 false [.agg [.ref 1796 1 0 1 none, .ref 1797 1 0 1 none]]),
  (1854, .arr 132 8 false [.agg [.bool true, .int .i64 0, .ref 1799 2 0 1 none, .ref 1809 15 0 1 none, .imm 0 [] 0, .ref 1790 1 0 30 none, .imm 0 [] 0, .imm 0 [] 0]]),
  (1815, .arr 3 1 true [.int .i64 0]),
  (1814, .arr 3 1 true [.int .i64 0]),
  (1817, .arr 56 2 false [.agg [.ref 1814 1 0 1 none, .ref 1815 1 0 1 none]]),
  (581, .box [.ref 1817 2 0 1 none, .ref 1854 8 0 1 none, .imm 10 [] 0, .int .i64 2])], 1929,
 { d := .int .i64 0, vc := true, eff := [(581, some (.box [.ref 3161 2 0 1 none, .ref 3187 8 0 1 none, .imm 0 [] 0, .int .i64 3])),
  (3145, some (.arr 5 1 true [.int .u8 7, .int .u8 3, .int .u8 0, .int .u8 2, .int .u8 3, .int .u8 2, .int .u8 0, .int .u8 1])),
  (3141, some (.arr 5 1 true [.int .u8 8, .int .u8 2, .int .u8 0, .int .u8 2, .int .u8 8, .int .u8 3, .int .u8 2, .int .u8 0, .int .u8 1])),
  (3137, some (.arr 5 1 true [.int .u8 4, .int .u8 1, .int .u8 0, .int .u8 2, .int .u8 8])),
  (3147, some (.arr 307 2 false [.agg [.bool false, .ref 3137 1 0 5 none], .agg [.bool false, .ref 3141 1 0 9 none], .agg [.bool false, .ref 3145 1 0 8 none]])),
  (3132, some (.arr 5 1 true [.int .u8 4, .int .u8 1, .int .u8 0, .int .u8 1, .int .u8 8, .int .u8 12, .int .u8 2, .int .u8 0, .int .u8 1, .int .u8 8, .int .u8 7, .int .u8 1, .int .u8 0, .int .u8 1, .int .u8 0, .int .u8 0, .int .u8 0, .int .u8 0, .int .u8 11, .int .u8 3, .int .u8 0, .int .u8 1, .int .u8 7, .int .u8 1, .int .u8 0, .int .u8 1, .int .u8 0, .int .u8 0, .int .u8 0, .int .u8 0])),
  (2754, some (.arr 9 1 true [.str []])),
  (2798, some (.arr 119 5 true [.agg [.int .i64 0, .int .i64 0, .int .i64 0, .int .i64 0, .str []]])),
  (2867, some (.arr 9 1 true [.str [1, 0, 1, 0, 0, 0, 0], .str [2, 0, 1]])),
  (2752, some (.arr 3 1 true [.int .i64 0])),
  (2751, some (.arr 3 1 true [.int .i64 0])),
  (2492, some (.arr 61 15 false [.agg [.int .i64 0, .int .i64 0, .ref 2751 1 0 1 none, .ref 2752 1 0 1 none, .ref 2867 1 0 2 none, .ref 2798 5 0 0 none, .int .u8 0, .int .i64 0, .imm 0 [] 0, .str [], .str [], .imm 0 [] 0, .imm 0 [] 0, .ref 2754 1 0 0 none, .int .i64 0]])),
  (2480, some (.arr 3 1 true [.int .i64 0])),
  (2479, some (.arr 3 1 true [.int .i64 0])),
  (2482, some (.arr 56 2 false [.agg [.ref 2479 1 0 1 none, .ref 2480 1 0 1 none]])),
  (3187, some (.arr 132 8 false [.agg [.bool true, .int .i64 0, .ref 2482 2 0 1 none, .ref 2492 15 0 1 none, .imm 0 [] 0, .ref 3132 1 0 30 none, .ref 3147 2 0 3 none, .imm 10 [] 0]])),
  (3159, some (.arr 3 1 true [.int .i64 0])),
  (3158, some (.arr 3 1 true [.int .i64 0])),
  (3161, some (.arr 56 2 false [.agg [.ref 3158 1 0 1 none, .ref 3159 1 0 1 none]]))], nw := (1929, 3189), met := [1790, 1805, 1804, 1803, 1809, 1797, 1796, 1799, 1854, 1815, 1814, 1817, 581] }⟩
theorem Tryz.rF46 : runFQ (getLQ Tryz.ftLF) Tryz.ptF Tryz.tm 2000 (callN (callKQ [Tryz.eF31, Tryz.eF29, Tryz.eF30] noCall) (getLQ Tryz.ftLF) Tryz.ptF Tryz.tm 2000 60) Tryz.eF46.K Tryz.eF46.args Tryz.eF46.heap Tryz.eF46.nx = some Tryz.eF46.out := by kernel_rfl
theorem Tryz.kF46 : EntOk Tryz.prog Tryz.eF46 := entOk_of_runN Tryz.tmOk Tryz.tmMixed Tryz.ftOkF (l := [Tryz.eF31, Tryz.eF29, Tryz.eF30]) (.cons Tryz.kF31 (.cons Tryz.kF29 (.cons Tryz.kF30 .nil))) Tryz.rF46

def Tryz.eF47 : Ent := ⟨57, [.agg [.ref 4018 2 0 1 none, .ref 4056 8 0 1 none, .imm 10 [] 0]],
 [(3991, .arr 5 1 true [.int .u8 4, .int .u8 1, .int .u8 0, .int .u8 1, .int .u8 8, .int .u8 12, .int .u8 2, .int .u8 0, .int .u8 1, .int .u8 8, .int .u8 7, .int .u8 1, .int .u8 0, .int .u8 1, .int .u8 0, .int .u8 0, .int .u8 0, .int .u8 0, .int .u8 11, .int .u8 3, .int .u8 0, .int .u8 1, .int .u8 7, .int .u8 1, .int .u8 0, .int .u8 1, .int .u8 0, .int .u8 0, .int .u8 0, .int .u8 0, .int .u8 4, .int .u8 1, .int .u8 0, .int .u8 2, .int .u8 8, .int .u8 8, .int .u8 2, .int .u8 0, .int .u8 2, .int .u8 8, .int .u8 3, .int .u8 2, .int .u8 0, .int .u8 1, .int .u8 7, .int .u8 3, .int .u8 0, .int .u8 2, .int .u8 3, .int .u8 2, .int .u8 0, .int .u8 1]),
  (4006, .arr 9 1 true [.str [1, 0, 1, 0, 0, 0, 0], .str [2, 0, 1]]),
  (4005, .arr 3 1 true [.int .i64 0]),
  (4004, .arr 3 1 true [.int .i64 0]),
  (4010, .arr 61 15 false [.agg [.int .i64 0, .int .i64 0, .ref 4004 1 0 1 none, .ref 4005 1 0 1 none, .ref 4006 1 0 2 none, .imm 5 [] 9, .int .u8 0, .int .i64 0, .imm 0 [] 0, .str [], .str [], .imm 0 [] 0, .imm 0 [] 0, .imm 1 [] 9, .int .i64 0]]),
  (3998, .arr 3 1 true [.int .i64 0]),
  (3997, .arr 3 1 true [.int .i64 0]),
  (4000, .arr 56 2 false [.agg [.ref 3997 1 0 1 none, .ref 3998 1 0 1 none]]),
  (4056, .arr 132 8 false [.agg [.bool true, .int .i64 0, .ref 4000 2 0 1 none, .ref 4010 15 0 1 none, .imm 0 [] 0, .ref 3991 1 0 52 none, .imm 0 [] 0, .imm 0 [] 0]]),
  (4016, .arr 3 1 true [.int .i64 0]),
  (4015, .arr 3 1 true [.int .i64 0]),
  (4018, .arr 56 2 false [.agg [.ref 4015 1 0 1 none, .ref 4016 1 0 1 none]])], 4063,
 { d := .bool true, vc := true, eff := [], nw := (4063, 4186), met := [3991, 4006, 4005, 4004, 4010, 3998, 3997, 4000, 4056, 4016, 4015, 4018] }⟩
theorem Tryz.rF47 : runFQ (getLQ Tryz.ftLF) Tryz.ptF Tryz.tm 2000 (callN (callKQ [] noCall) (getLQ Tryz.ftLF) Tryz.ptF Tryz.tm 2000 60) Tryz.eF47.K Tryz.eF47.args Tryz.eF47.heap Tryz.eF47.nx = some Tryz.eF47.out := by kernel_rfl
theorem Tryz.kF47 : EntOk Tryz.prog Tryz.eF47 := entOk_of_runN Tryz.tmOk Tryz.tmMixed Tryz.ftOkF (l := []) .nil Tryz.rF47

def Tryz.eF48 : Ent := ⟨19, [.agg [.ref 400 2 0 1 none, .ref 424 8 0 1 none, .imm 0 [] 0]],
 [(379, .arr 9 1 true [.str [1, 0, 1, 0, 0, 0, 0]]),
  (356, .arr 3 1 true [.int .i64 0]),
  (355, .arr 3 1 true [.int .i64 0]),
  (303, .arr 61 15 false [.agg [.int .i64 0, .int .i64 0, .ref 355 1 0 1 none, .ref 356 1 0 1 none, .imm 0 [] 0, .imm 0 [] 0, .int .u8 0, .int .i64 0, .imm 0 [] 0, .str [], .str [], .imm 0 [] 0, .imm 0 [] 0, .ref 379 1 0 1 none, .int .i64 0]]),
  (292, .arr 3 1 true [.int .i64 0]),
  (291, .arr 3 1 true [.int .i64 0]),
  (294, .arr 56 2 false [.agg [.ref 291 1 0 1 none, .ref 292 1 0 1 none]]),
  (424, .arr 132 8 false [.agg [.bool true, .int .i64 0, .ref 294 2 0 1 none, .ref 303 15 0 1 none, .imm 0 [] 0, .imm 1 [] 0, .imm 0 [] 0, .imm 10 [] 0]]),
  (398, .arr 3 1 true [.int .i64 0]),
  (397, .arr 3 1 true [.int .i64 0]),
  (400, .arr 56 2 false [.agg [.ref 397 1 0 1 none, .ref 398 1 0 1 none]])], 429,
 { d := .tuple [.int .i64 22, .int .i64 0], vc := true, eff := [], nw := (429, 548), met := [379, 356, 355, 303, 292, 291, 294, 424, 398, 397, 400] }⟩
theorem Tryz.rF48 : runFQ (getLQ Tryz.ftLF) Tryz.ptF Tryz.tm 2000 (callN (callKQ [] noCall) (getLQ Tryz.ftLF) Tryz.ptF Tryz.tm 2000 60) Tryz.eF48.K Tryz.eF48.args Tryz.eF48.heap Tryz.eF48.nx = some Tryz.eF48.out := by kernel_rfl
theorem Tryz.kF48 : EntOk Tryz.prog Tryz.eF48 := entOk_of_runN Tryz.tmOk Tryz.tmMixed Tryz.ftOkF (l := []) .nil Tryz.rF48

def Tryz.eF49 : Ent := ⟨72, [.ptr 581 0],
 [(1790, .arr 5 1 true [.int .u8 4, .int .u8 1, .int .u8 0, .int .u8 1, .int .u8 8, .int .u8 12, .int .u8 2, .int .u8 0, .int .u8 1, .int .u8 8, .int .u8 7, .int .u8 1, .int .u8 0, .int .u8 1, .int .u8 0, .int .u8 0, .int .u8 0, .int .u8 0, .int .u8 11, .int .u8 3, .int .u8 0, .int .u8 1, .int .u8 7, .int .u8 1, .int .u8 0, .int .u8 1, .int .u8 0, .int .u8 0, .int .u8 0, .int .u8 0]),
  (1805, .arr 9 1 true [.str [1, 0, 1, 0, 0, 0, 0]]),
  (1804, .arr 3 1 true [.int .i64 0]),
  (1803, .arr 3 1 true [.int .i64 0]),
  (1809, .arr 61 15 false [.agg [.int .i64 0, .int .i64 0, .ref 1803 1 0 1 none, .ref 1804 1 0 1 none, .ref 1805 1 0 1 none, .imm 5 [] 9, .int .u8 0, .int .i64 0, .imm 0 [] 0, .str [], .str [], .imm 0 [] 0, .imm 0 [] 0, .imm 1 [] 9, .int .i64 0]]),
  (1797, .arr 3 1 true [.int .i64 0]),
  (1796, .arr 3 1 true [.int .i64 0]),
  (1799, .arr 56 2 false [.agg [.ref 1796 1 0 1 none, .ref 1797 1 0 1 none]]),
  (1854, .arr 132 8 false [.agg [.bool true, .int .i64 0, .ref 1799 2 0 1 none, .ref 1809 15 0 1 none, .imm 0 [] 0, .ref 1790 1 0 30 none, .imm 0 [] 0, .imm 0 [] 0]]),
  (1815, .arr 3 1 true [.int .i64 0]),
  (1814, .arr 3 1 true [.int .i64 0]),
  (1817, .arr 56 2 false [.agg [.ref 1814 1 0 1 none, .ref 1815 1 0 1 none]]),
  (581, .box [.ref 1817 2 0 1 none, .ref 1854 8 0 1 none, .imm 10 [] 0, .int .i64 2])], 1928,
 { d := .int .i64 0, vc := true, eff := [(581, some (.box [.ref 4018 2 0 1 none, .ref 4056 8 0 1 none, .imm 10 [] 0, .int .i64 4])),
  (3991, some (.arr 5 1 true [.int .u8 4, .int .u8 1, .int .u8 0, .int .u8 1, .int .u8 8, .int .u8 12, .int .u8 2, .int .u8 0, .int .u8 1, .int .u8 8, .int .u8 7, .int .u8 1, .int .u8 0, .int .u8 1, .int .u8 0, .int .u8 0, .int .u8 0, .int .u8 0, .int .u8 11, .int .u8 3, .int .u8 0, .int .u8 1, .int .u8 7, .int .u8 1, .int .u8 0, .int .u8 1, .int .u8 0, .int .u8 0, .int .u8 0, .int .u8 0, .int .u8 4, .int .u8 1, .int .u8 0, .int .u8 2, .int .u8 8, .int .u8 8, .int .u8 2, .int .u8 0, .int .u8 2, .int .u8 8, .int .u8 3, .int .u8 2, .int .u8 0, .int .u8 1, .int .u8 7, .int .u8 3, .int .u8 0, .int .u8 2, .int .u8 3, .int .u8 2, .int .u8 0, .int .u8 1])),
  (4006, some (.arr 9 1 true [.str [1, 0, 1, 0, 0, 0, 0], .str [2, 0, 1]])),
  (4005, some (.arr 3 1 true [.int .i64 0])),
  (4004, some (.arr 3 1 true [.int .i64 0])),
  (4010, some (.arr 61 15 false [.agg [.int .i64 0, .int .i64 0, .ref 4004 1 0 1 none, .ref 4005 1 0 1 none, .ref 4006 1 0 2 none, .imm 5 [] 9, .int .u8 0, .int .i64 0, .imm 0 [] 0, .str [], .str [], .imm 0 [] 0, .imm 0 [] 0, .imm 1 [] 9, .int .i64 0]])),
  (3998, some (.arr 3 1 true [.int .i64 0])),
  (3997, some (.arr 3 1 true [.int .i64 0])),
  (4000, some (.arr 56 2 false [.agg [.ref 3997 1 0 1 none, .ref 3998 1 0 1 none]])),
  (4056, some (.arr 132 8 false [.agg [.bool true, .int .i64 0, .ref 4000 2 0 1 none, .ref 4010 15 0 1 none, .imm 0 [] 0, .ref 3991 1 0 52 none, .imm 0 [] 0, .imm 0 [] 0]])),
  (4016, some (.arr 3 1 true [.int .i64 0])),
  (4015, some (.arr 3 1 true [.int .i64 0])),
  (4018, some (.arr 56 2 false [.agg [.ref 4015 1 0 1 none, .ref 4016 1 0 1 none]]))], nw := (1928, 4063), met := [1790, 1805, 1804, 1803, 1809, 1797, 1796, 1799, 1854, 1815, 1814, 1817, 581] }⟩
theorem Tryz.rF49 : runFQ (getLQ Tryz.ftLF) Tryz.ptF Tryz.tm 2000 (callN (callKQ [Tryz.eF46, Tryz.eF44, Tryz.eF36, Tryz.eF37, Tryz.eF45] noCall) (getLQ Tryz.ftLF) Tryz.ptF Tryz.tm 2000 60) Tryz.eF49.K Tryz.eF49.args Tryz.eF49.heap Tryz.eF49.nx = some Tryz.eF49.out := by kernel_rfl
theorem Tryz.kF49 : EntOk Tryz.prog Tryz.eF49 := entOk_of_runN Tryz.tmOk Tryz.tmMixed Tryz.ftOkF (l := [Tryz.eF46, Tryz.eF44, Tryz.eF36, Tryz.eF37, Tryz.eF45]) (.cons Tryz.kF46 (.cons Tryz.kF44 (.cons Tryz.kF36 (.cons Tryz.kF37 (.cons Tryz.kF45 .nil))))) Tryz.rF49

def Tryz.eF50 : Ent := ⟨57, [.agg [.ref 1817 2 0 1 none, .ref 1854 8 0 1 none, .imm 10 [] 0]],
 [(1790, .arr 5 1 true [.int .u8 4, .int .u8 1, .int .u8 0, .int .u8 1, .int .u8 8, .int .u8 12, .int .u8 2, .int .u8 0, .int .u8 1, .int .u8 8, .int .u8 7, .int .u8 1, .int .u8 0, .int .u8 1, .int .u8 0, .int .u8 0, .int .u8 0, .int .u8 0, .int .u8 11, .int .u8 3, .int .u8 0, .int .u8 1, .int .u8 7, .int .u8 1, .int .u8 0, .int .u8 1, .int .u8 0, .int .u8 0, .int .u8 0, .int .u8 0]),
  (1805, .arr 9 1 true [.str [1, 0, 1, 0, 0, 0, 0]]),
  (1804, .arr 3 1 true [.int .i64 0]),
  (1803, .arr 3 1 true [.int .i64 0]),
  (1809, .arr 61 15 false [.agg [.int .i64 0, .int .i64 0, .ref 1803 1 0 1 none, .ref 1804 1 0 1 none, .ref 1805 1 0 1 none, .imm 5 [] 9, .int .u8 0, .int .i64 0, .imm 0 [] 0, .str [], .str [], .imm 0 [] 0, .imm 0 [] 0, .imm 1 [] 9, .int .i64 0]]),
  (1797, .arr 3 1 true [.int .i64 0]),
  (1796, .arr 3 1 true [.int .i64 0]),
  (1799, .arr 56 2 false [.agg [.ref 1796 1 0 1 none, .ref 1797 1 0 1 none]]),
  (1854, .arr 132 8 false [.agg [.bool true, .int .i64 0, .ref 1799 2 0 1 none, .ref 1809 15 0 1 none, .imm 0 [] 0, .ref 1790 1 0 30 none, .imm 0 [] 0, .imm 0 [] 0]]),
  (1815, .arr 3 1 true [.int .i64 0]),
  (1814, .arr 3 1 true [.int .i64 0]),
  (1817, .arr 56 2 false [.agg [.ref 1814 1 0 1 none, .ref 1815 1 0 1 none]])], 1861,
 { d := .bool false, vc := true, eff := [], nw := (1861, 1928), met := [1790, 1805, 1804, 1803, 1809, 1797, 1796, 1799, 1854, 1815, 1814, 1817] }⟩
theorem Tryz.rF50 : runFQ (getLQ Tryz.ftLF) Tryz.ptF Tryz.tm 2000 (callN (callKQ [] noCall) (getLQ Tryz.ftLF) Tryz.ptF Tryz.tm 2000 60) Tryz.eF50.K Tryz.eF50.args Tryz.eF50.heap Tryz.eF50.nx = some Tryz.eF50.out := by kernel_rfl
theorem Tryz.kF50 : EntOk Tryz.prog Tryz.eF50 := entOk_of_runN Tryz.tmOk Tryz.tmMixed Tryz.ftOkF (l := []) .nil Tryz.rF50

def Tryz.eF51 : Ent := ⟨91, [.ptr 4222 0],
 [(4006, .arr 9 1 true [.str [1, 0, 1, 0, 0, 0, 0], .str [2, 0, 1]]),
  (4005, .arr 3 1 true [.int .i64 0]),
  (4004, .arr 3 1 true [.int .i64 0]),
  (4010, .arr 61 15 false [.agg [.int .i64 0, .int .i64 0, .ref 4004 1 0 1 none, .ref 4005 1 0 1 none, .ref 4006 1 0 2 none, .imm 5 [] 9, .int .u8 0, .int .i64 0, .imm 0 [] 0, .str [], .str [], .imm 0 [] 0, .imm 0 [] 0, .imm 1 [] 9, .int .i64 0]]),
  (3998, .arr 3 1 true [.int .i64 0]),
  (3997, .arr 3 1 true [.int .i64 0]),
  (4000, .arr 56 2 false [.agg [.ref 3997 1 0 1 none, .ref 3998 1 0 1 none]]),
  (4222, .box [.int .i64 0, .ref 4000 2 0 1 none, .ref 4010 15 0 1 none, .imm 0 [] 0, .imm 0 [] 0, .imm 0 [] 0])], 4272,
 { d := .mref 4272, vc := true, eff := [(4272, some (.map []))], nw := (4272, 4392), met := [4006, 4005, 4004, 4010, 3998, 3997, 4000, 4222] }⟩
theorem Tryz.rF51 : runFQ (getLQ Tryz.ftLF) Tryz.ptF Tryz.tm 2000 (callN (callKQ [] noCall) (getLQ Tryz.ftLF) Tryz.ptF Tryz.tm 2000 60) Tryz.eF51.K Tryz.eF51.args Tryz.eF51.heap Tryz.eF51.nx = some Tryz.eF51.out := by kernel_rfl
theorem Tryz.kF51 : EntOk Tryz.prog Tryz.eF51 := entOk_of_runN Tryz.tmOk Tryz.tmMixed Tryz.ftOkF (l := []) .nil Tryz.rF51

def Tryz.eF52 : Ent := ⟨210, [.str [2, 0, 1, 8, 7, 1, 0, 1, 0, 0, 0, 0]],
 [], 4451,
 { d := .tuple [.agg [.int .u8 2, .int .i64 0, .int .i64 1, .int .i64 8, .str [1, 0, 1, 0, 0, 0, 0]], .int .i64 0], vc := true, eff := [], nw := (4451, 4456), met := [] }⟩
theorem Tryz.rF52 : runFQ (getLQ Tryz.ftLF) Tryz.ptF Tryz.tm 2000 (callN (callKQ [] noCall) (getLQ Tryz.ftLF) Tryz.ptF Tryz.tm 2000 60) Tryz.eF52.K Tryz.eF52.args Tryz.eF52.heap Tryz.eF52.nx = some Tryz.eF52.out := by kernel_rfl
theorem Tryz.kF52 : EntOk Tryz.prog Tryz.eF52 := entOk_of_runN Tryz.tmOk Tryz.tmMixed Tryz.ftOkF (l := []) .nil Tryz.rF52

def Tryz.eF53 : Ent := ⟨210, [.str [2, 0, 2, 8, 3, 2, 0, 1]],
 [], 4501,
 { d := .tuple [.agg [.int .u8 2, .int .i64 0, .int .i64 2, .int .i64 8, .str [2, 0, 1]], .int .i64 0], vc := true, eff := [], nw := (4501, 4506), met := [] }⟩
theorem Tryz.rF53 : runFQ (getLQ Tryz.ftLF) Tryz.ptF Tryz.tm 2000 (callN (callKQ [] noCall) (getLQ Tryz.ftLF) Tryz.ptF Tryz.tm 2000 60) Tryz.eF53.K Tryz.eF53.args Tryz.eF53.heap Tryz.eF53.nx = some Tryz.eF53.out := by kernel_rfl
theorem Tryz.kF53 : EntOk Tryz.prog Tryz.eF53 := entOk_of_runN Tryz.tmOk Tryz.tmMixed Tryz.ftOkF (l := []) .nil Tryz.rF53

def Tryz.eF54 : Ent := ⟨210, [.str [1, 0, 1, 8]],
 [], 4436,
 { d := .tuple [.agg [.int .u8 1, .int .i64 0, .int .i64 1, .int .i64 8, .str []], .int .i64 0], vc := true, eff := [], nw := (4436, 4441), met := [] }⟩
theorem Tryz.rF54 : runFQ (getLQ Tryz.ftLF) Tryz.ptF Tryz.tm 2000 (callN (callKQ [] noCall) (getLQ Tryz.ftLF) Tryz.ptF Tryz.tm 2000 60) Tryz.eF54.K Tryz.eF54.args Tryz.eF54.heap Tryz.eF54.nx = some Tryz.eF54.out := by kernel_rfl
theorem Tryz.kF54 : EntOk Tryz.prog Tryz.eF54 := entOk_of_runN Tryz.tmOk Tryz.tmMixed Tryz.ftOkF (l := []) .nil Tryz.rF54

def Tryz.eF55 : Ent := ⟨138, [.int .i64 1, .ref 4409 1 0 6 none],
 [(4409, .arr 9 1 true [.str [1, 0, 1, 8], .str [2, 0, 1, 8, 7, 1, 0, 1, 0, 0, 0, 0], .str [3, 0, 1, 7, 1, 0, 1, 0, 0, 0, 0], .str [1, 0, 2, 8], .str [2, 0, 2, 8, 3, 2, 0, 1], .str [3, 0, 2, 3, 2, 0, 1]])], 4432,
 { d := .tuple [.agg [.ref 4434 1 0 1 (some 1), .ref 4450 5 0 0 none], .int .i64 0], vc := true, eff := [(4450, some (.arr 119 5 true [.agg [.int .i64 0, .int .i64 0, .int .i64 0, .int .i64 0, .str []]])),
  (4536, some (.arr 9 1 true [.str [1, 0, 1, 0, 0, 0, 0], .str [2, 0, 1]])),
  (4434, some (.arr 40 1 false [.ref 4536 1 0 2 none]))], nw := (4432, 4537), met := [4409] }⟩
theorem Tryz.rF55 : runFQ (getLQ Tryz.ftLF) Tryz.ptF Tryz.tm 2000 (callN (callKQ [Tryz.eF52, Tryz.eF53, Tryz.eF54] noCall) (getLQ Tryz.ftLF) Tryz.ptF Tryz.tm 2000 60) Tryz.eF55.K Tryz.eF55.args Tryz.eF55.heap Tryz.eF55.nx = some Tryz.eF55.out := by kernel_rfl
theorem Tryz.kF55 : EntOk Tryz.prog Tryz.eF55 := entOk_of_runN Tryz.tmOk Tryz.tmMixed Tryz.ftOkF (l := [Tryz.eF52, Tryz.eF53, Tryz.eF54]) (.cons Tryz.kF52 (.cons Tryz.kF53 (.cons Tryz.kF54 .nil))) Tryz.rF55

def Tryz.eF56 : Ent := ⟨120, [.agg [.bool true, .int .i64 0, .ref 4000 2 0 1 none, .ref 4010 15 0 1 none, .imm 0 [] 0, .ref 3991 1 0 52 none, .imm 0 [] 0, .imm 0 [] 0]],
 [(3991, .arr 5 1 true [.int .u8 4, .int .u8 1, .int .u8 0, .int .u8 1, .int .u8 8, .int .u8 12, .int .u8 2, .int .u8 0, .int .u8 1, .int .u8 8, .int .u8 7, .int .u8 1, .int .u8 0, .int .u8 1, .int .u8 0, .int .u8 0, .int .u8 0, .int .u8 0, .int .u8 11, .int .u8 3, .int .u8 0, .int .u8 1, .int .u8 7, .int .u8 1, .int .u8 0, .int .u8 1, .int .u8 0, .int .u8 0, .int .u8 0, .int .u8 0, .int .u8 4, .int .u8 1, .int .u8 0, .int .u8 2, .int .u8 8, .int .u8 8, .int .u8 2, .int .u8 0, .int .u8 2, .int .u8 8, .int .u8 3, .int .u8 2, .int .u8 0, .int .u8 1, .int .u8 7, .int .u8 3, .int .u8 0, .int .u8 2, .int .u8 3, .int .u8 2, .int .u8 0, .int .u8 1]),
  (4006, .arr 9 1 true [.str [1, 0, 1, 0, 0, 0, 0], .str [2, 0, 1]]),
  (4005, .arr 3 1 true [.int .i64 0]),
  (4004, .arr 3 1 true [.int .i64 0]),
  (4010, .arr 61 15 false [.agg [.int .i64 0, .int .i64 0, .ref 4004 1 0 1 none, .ref 4005 1 0 1 none, .ref 4006 1 0 2 none, .imm 5 [] 9, .int .u8 0, .int .i64 0, .imm 0 [] 0, .str [], .str [], .imm 0 [] 0, .imm 0 [] 0, .imm 1 [] 9, .int .i64 0]]),
  (3998, .arr 3 1 true [.int .i64 0]),
  (3997, .arr 3 1 true [.int .i64 0]),
  (4000, .arr 56 2 false [.agg [.ref 3997 1 0 1 none, .ref 3998 1 0 1 none]])], 4218,
 { d := .int .i64 0, vc := true, eff := [], nw := (4218, 4546), met := [3991, 4006, 4005, 4004, 4010, 3998, 3997, 4000] }⟩
theorem Tryz.rF56 : runFQ (getLQ Tryz.ftLF) Tryz.ptF Tryz.tm 2000 (callN (callKQ [Tryz.eF55, Tryz.eF51] noCall) (getLQ Tryz.ftLF) Tryz.ptF Tryz.tm 2000 60) Tryz.eF56.K Tryz.eF56.args Tryz.eF56.heap Tryz.eF56.nx = some Tryz.eF56.out := by kernel_rfl
theorem Tryz.kF56 : EntOk Tryz.prog Tryz.eF56 := entOk_of_runN Tryz.tmOk Tryz.tmMixed Tryz.ftOkF (l := [Tryz.eF55, Tryz.eF51]) (.cons Tryz.kF55 (.cons Tryz.kF51 .nil)) Tryz.rF56

def Tryz.eF57 : Ent := ⟨91, [.ptr 4552 0],
 [(4006, .arr 9 1 true [.str [1, 0, 1, 0, 0, 0, 0], .str [2, 0, 1]]),
  (4005, .arr 3 1 true [.int .i64 0]),
  (4004, .arr 3 1 true [.int .i64 0]),
  (4010, .arr 61 15 false [.agg [.int .i64 0, .int .i64 0, .ref 4004 1 0 1 none, .ref 4005 1 0 1 none, .ref 4006 1 0 2 none, .imm 5 [] 9, .int .u8 0, .int .i64 0, .imm 0 [] 0, .str [], .str [], .imm 0 [] 0, .imm 0 [] 0, .imm 1 [] 9, .int .i64 0]]),
  (3998, .arr 3 1 true [.int .i64 0]),
  (3997, .arr 3 1 true [.int .i64 0]),
  (4000, .arr 56 2 false [.agg [.ref 3997 1 0 1 none, .ref 3998 1 0 1 none]]),
  (4552, .box [.int .i64 0, .ref 4000 2 0 1 none, .ref 4010 15 0 1 none, .imm 0 [] 0, .imm 0 [] 0, .imm 0 [] 0])], 4602,
 { d := .mref 4602, vc := true, eff := [(4602, some (.map []))], nw := (4602, 4722), met := [4006, 4005, 4004, 4010, 3998, 3997, 4000, 4552] }⟩
theorem Tryz.rF57 : runFQ (getLQ Tryz.ftLF) Tryz.ptF Tryz.tm 2000 (callN (callKQ [] noCall) (getLQ Tryz.ftLF) Tryz.ptF Tryz.tm 2000 60) Tryz.eF57.K Tryz.eF57.args Tryz.eF57.heap Tryz.eF57.nx = some Tryz.eF57.out := by kernel_rfl
theorem Tryz.kF57 : EntOk Tryz.prog Tryz.eF57 := entOk_of_runN Tryz.tmOk Tryz.tmMixed Tryz.ftOkF (l := []) .nil Tryz.rF57

def Tryz.eF58 : Ent := ⟨20, [],
 [], 0,
 { d := .tuple [.agg [.ref 400 2 0 1 none, .ref 424 8 0 1 none, .imm 0 [] 0], .bool true], vc := true, eff := [(379, some (.arr 9 1 true [.str [1, 0, 1, 0, 0, 0, 0]])),
  (356, some (.arr 3 1 true [.int .i64 0])),
  (355, some (.arr 3 1 true [.int .i64 0])),
  (303, some (.arr 61 15 false [.agg [.int .i64 0, .int .i64 0, .ref 355 1 0 1 none, .ref 356 1 0 1 none, .imm 0 [] 0, .imm 0 [] 0, .int .u8 0, .int .i64 0, .imm 0 [] 0, .str [], .str [], .imm 0 [] 0, .imm 0 [] 0, .ref 379 1 0 1 none, .int .i64 0]])),
  (292, some (.arr 3 1 true [.int .i64 0])),
  (291, some (.arr 3 1 true [.int .i64 0])),
  (294, some (.arr 56 2 false [.agg [.ref 291 1 0 1 none, .ref 292 1 0 1 none]])),
  (424, some (.arr 132 8 false [.agg [.bool true, .int .i64 0, .ref 294 2 0 1 none, .ref 303 15 0 1 none, .imm 0 [] 0, .imm 1 [] 0, .imm 0 [] 0, .imm 10 [] 0]])),
  (398, some (.arr 3 1 true [.int .i64 0])),
  (397, some (.arr 3 1 true [.int .i64 0])),
  (400, some (.arr 56 2 false [.agg [.ref 397 1 0 1 none, .ref 398 1 0 1 none]]))], nw := (0, 426), met := [] }⟩
theorem Tryz.rF58 : runFQ (getLQ Tryz.ftLF) Tryz.ptF Tryz.tm 2000 (callN (callKQ [Tryz.eF1, Tryz.eF0] noCall) (getLQ Tryz.ftLF) Tryz.ptF Tryz.tm 2000 60) Tryz.eF58.K Tryz.eF58.args Tryz.eF58.heap Tryz.eF58.nx = some Tryz.eF58.out := by kernel_rfl
theorem Tryz.kF58 : EntOk Tryz.prog Tryz.eF58 := entOk_of_runN Tryz.tmOk Tryz.tmMixed Tryz.ftOkF (l := [Tryz.eF1, Tryz.eF0]) (.cons Tryz.kF1 (.cons Tryz.kF0 .nil)) Tryz.rF58

def Tryz.eF59 : Ent := ⟨24, [.agg [.ref 4018 2 0 1 none, .ref 4056 8 0 1 none, .imm 10 [] 0], .int .i64 0, .int .i64 0],
 [(3991, .arr 5 1 true [.int .u8 4, .int .u8 1, .int .u8 0, .int .u8 1, .int .u8 8, .int .u8 12, .int .u8 2, .int .u8 0, .int .u8 1, .int .u8 8, .int .u8 7, .int .u8 1, .int .u8 0, .int .u8 1, .int .u8 0, .int .u8 0, .int .u8 0, .int .u8 0, .int .u8 11, .int .u8 3, .int .u8 0, .int .u8 1, .int .u8 7, .int .u8 1, .int .u8 0, .int .u8 1, .int .u8 0, .int .u8 0, .int .u8 0, .int .u8 0, .int .u8 4, .int .u8 1, .int .u8 0, .int .u8 2, .int .u8 8, .int .u8 8, .int .u8 2, .int .u8 0, .int .u8 2, .int .u8 8, .int .u8 3, .int .u8 2, .int .u8 0, .int .u8 1, .int .u8 7, .int .u8 3, .int .u8 0, .int .u8 2, .int .u8 3, .int .u8 2, .int .u8 0, .int .u8 1]),
  (4006, .arr 9 1 true [.str [1, 0, 1, 0, 0, 0, 0], .str [2, 0, 1]]),
  (4005, .arr 3 1 true [.int .i64 0]),
  (4004, .arr 3 1 true [.int .i64 0]),
  (4010, .arr 61 15 false [.agg [.int .i64 0, .int .i64 0, .ref 4004 1 0 1 none, .ref 4005 1 0 1 none, .ref 4006 1 0 2 none, .imm 5 [] 9, .int .u8 0, .int .i64 0, .imm 0 [] 0, .str [], .str [], .imm 0 [] 0, .imm 0 [] 0, .imm 1 [] 9, .int .i64 0]]),
  (3998, .arr 3 1 true [.int .i64 0]),
  (3997, .arr 3 1 true [.int .i64 0]),
  (4000, .arr 56 2 false [.agg [.ref 3997 1 0 1 none, .ref 3998 1 0 1 none]]),
  (4056, .arr 132 8 false [.agg [.bool true, .int .i64 0, .ref 4000 2 0 1 none, .ref 4010 15 0 1 none, .imm 0 [] 0, .ref 3991 1 0 52 none, .imm 0 [] 0, .imm 0 [] 0]]),
  (4016, .arr 3 1 true [.int .i64 0]),
  (4015, .arr 3 1 true [.int .i64 0]),
  (4018, .arr 56 2 false [.agg [.ref 4015 1 0 1 none, .ref 4016 1 0 1 none]])], 4187,
 { d := .tuple [.ref 4725 1 0 2 none, .int .i64 0], vc := true, eff := [(4725, some (.arr 9 1 true [.str [1, 0, 1, 0, 0, 0, 0], .str [2, 0, 1]]))], nw := (4187, 4726), met := [3991, 4006, 4005, 4004, 4010, 3998, 3997, 4000, 4056, 4016, 4015, 4018] }⟩
theorem Tryz.rF59 : runFQ (getLQ Tryz.ftLF) Tryz.ptF Tryz.tm 2000 (callN (callKQ [Tryz.eF56, Tryz.eF57] noCall) (getLQ Tryz.ftLF) Tryz.ptF Tryz.tm 2000 60) Tryz.eF59.K Tryz.eF59.args Tryz.eF59.heap Tryz.eF59.nx = some Tryz.eF59.out := by kernel_rfl
theorem Tryz.kF59 : EntOk Tryz.prog Tryz.eF59 := entOk_of_runN Tryz.tmOk Tryz.tmMixed Tryz.ftOkF (l := [Tryz.eF56, Tryz.eF57]) (.cons Tryz.kF56 (.cons Tryz.kF57 .nil)) Tryz.rF59

def Tryz.eF60 : Ent := ⟨9, [.agg [.int .i64 0, .ref 5060 2 0 1 none, .ref 5073 15 0 1 none, .imm 0 [] 0], .int .i64 0, .agg [.int .u8 1, .int .i64 0, .ref 5079 1 0 1 (some 1), .int .i64 0, .str [], .str [], .int .i64 0, .int .i64 0, .imm 0 [] 0, .int .i64 0, .int .i64 0, .int .i64 0]],
 [(5079, .arr 3 1 true [.int .i64 0]),
  (5068, .arr 3 1 true [.int .i64 0]),
  (5067, .arr 3 1 true [.int .i64 0]),
  (5073, .arr 61 15 false [.agg [.int .i64 0, .int .i64 0, .ref 5067 1 0 1 none, .ref 5068 1 0 1 none, .imm 0 [] 0, .imm 0 [] 0, .int .u8 0, .int .i64 0, .imm 0 [] 0, .str [], .str [], .imm 0 [] 0, .imm 0 [] 0, .imm 0 [] 0, .int .i64 0]]),
  (5058, .arr 3 1 true [.int .i64 0]),
  (5057, .arr 3 1 true [.int .i64 0]),
  (5060, .arr 56 2 false [.agg [.ref 5057 1 0 1 none, .ref 5058 1 0 1 none]])], 5258,
 { d := .tuple [.agg [.int .i64 0, .ref 5303 2 0 1 none, .ref 5312 15 0 1 none, .imm 0 [] 0], .imm 0 [] 0, .int .i64 0], vc := true, eff := [(5388, some (.arr 9 1 true [.str [1, 0, 1, 0, 0, 0, 0]])),
  (5365, some (.arr 3 1 true [.int .i64 0])),
  (5364, some (.arr 3 1 true [.int .i64 0])),
  (5312, some (.arr 61 15 false [.agg [.int .i64 0, .int .i64 0, .ref 5364 1 0 1 none, .ref 5365 1 0 1 none, .imm 0 [] 0, .imm 0 [] 0, .int .u8 0, .int .i64 0, .imm 0 [] 0, .str [], .str [], .imm 0 [] 0, .imm 0 [] 0, .ref 5388 1 0 1 none, .int .i64 0]])),
  (5301, some (.arr 3 1 true [.int .i64 0])),
  (5300, some (.arr 3 1 true [.int .i64 0])),
  (5303, some (.arr 56 2 false [.agg [.ref 5300 1 0 1 none, .ref 5301 1 0 1 none]]))], nw := (5258, 5390), met := [5079, 5068, 5067, 5073, 5058, 5057, 5060] }⟩
theorem Tryz.rF60 : runFQ (getLQ Tryz.ftLF) Tryz.ptF Tryz.tm 2000 (callN (callKQ [] noCall) (getLQ Tryz.ftLF) Tryz.ptF Tryz.tm 2000 60) Tryz.eF60.K Tryz.eF60.args Tryz.eF60.heap Tryz.eF60.nx = some Tryz.eF60.out := by kernel_rfl
theorem Tryz.kF60 : EntOk Tryz.prog Tryz.eF60 := entOk_of_runN Tryz.tmOk Tryz.tmMixed Tryz.ftOkF (l := []) .nil Tryz.rF60

def Tryz.eF61 : Ent := ⟨56, [.agg [.ref 5047 2 0 1 none, .ref 5077 8 0 1 none, .imm 0 [] 0]],
 [(5068, .arr 3 1 true [.int .i64 0]),
  (5067, .arr 3 1 true [.int .i64 0]),
  (5073, .arr 61 15 false [.agg [.int .i64 0, .int .i64 0, .ref 5067 1 0 1 none, .ref 5068 1 0 1 none, .imm 0 [] 0, .imm 0 [] 0, .int .u8 0, .int .i64 0, .imm 0 [] 0, .str [], .str [], .imm 0 [] 0, .imm 0 [] 0, .imm 0 [] 0, .int .i64 0]]),
  (5058, .arr 3 1 true [.int .i64 0]),
  (5057, .arr 3 1 true [.int .i64 0]),
  (5060, .arr 56 2 false [.agg [.ref 5057 1 0 1 none, .ref 5058 1 0 1 none]]),
  (5077, .arr 132 8 false [.agg [.bool true, .int .i64 0, .ref 5060 2 0 1 none, .ref 5073 15 0 1 none, .imm 0 [] 0, .imm 0 [] 0, .imm 0 [] 0, .imm 0 [] 0]]),
  (5045, .arr 3 1 true [.int .i64 0]),
  (5044, .arr 3 1 true [.int .i64 0]),
  (5047, .arr 56 2 false [.agg [.ref 5044 1 0 1 none, .ref 5045 1 0 1 none]])], 5083,
 { d := .int .i64 0, vc := true, eff := [], nw := (5083, 5181), met := [5068, 5067, 5073, 5058, 5057, 5060, 5077, 5045, 5044, 5047] }⟩
theorem Tryz.rF61 : runFQ (getLQ Tryz.ftLF) Tryz.ptF Tryz.tm 2000 (callN (callKQ [] noCall) (getLQ Tryz.ftLF) Tryz.ptF Tryz.tm 2000 60) Tryz.eF61.K Tryz.eF61.args Tryz.eF61.heap Tryz.eF61.nx = some Tryz.eF61.out := by kernel_rfl
theorem Tryz.kF61 : EntOk Tryz.prog Tryz.eF61 := entOk_of_runN Tryz.tmOk Tryz.tmMixed Tryz.ftOkF (l := []) .nil Tryz.rF61

def Tryz.eF62 : Ent := ⟨56, [.agg [.ref 5409 2 0 1 none, .ref 5433 8 0 1 none, .imm 0 [] 0]],
 [(5388, .arr 9 1 true [.str [1, 0, 1, 0, 0, 0, 0]]),
  (5365, .arr 3 1 true [.int .i64 0]),
  (5364, .arr 3 1 true [.int .i64 0]),
  (5312, .arr 61 15 false [.agg [.int .i64 0, .int .i64 0, .ref 5364 1 0 1 none, .ref 5365 1 0 1 none, .imm 0 [] 0, .imm 0 [] 0, .int .u8 0, .int .i64 0, .imm 0 [] 0, .str [], .str [], .imm 0 [] 0, .imm 0 [] 0, .ref 5388 1 0 1 none, .int .i64 0]]),
  (5301, .arr 3 1 true [.int .i64 0]),
  (5300, .arr 3 1 true [.int .i64 0]),
  (5303, .arr 56 2 false [.agg [.ref 5300 1 0 1 none, .ref 5301 1 0 1 none]]),
  (5433, .arr 132 8 false [.agg [.bool true, .int .i64 0, .ref 5303 2 0 1 none, .ref 5312 15 0 1 none, .imm 0 [] 0, .imm 1 [] 0, .imm 0 [] 0, .imm 10 [] 0]]),
  (5407, .arr 3 1 true [.int .i64 0]),
  (5406, .arr 3 1 true [.int .i64 0]),
  (5409, .arr 56 2 false [.agg [.ref 5406 1 0 1 none, .ref 5407 1 0 1 none]])], 5681,
 { d := .int .i64 0, vc := true, eff := [], nw := (5681, 5797), met := [5388, 5365, 5364, 5312, 5301, 5300, 5303, 5433, 5407, 5406, 5409] }⟩
theorem Tryz.rF62 : runFQ (getLQ Tryz.ftLF) Tryz.ptF Tryz.tm 2000 (callN (callKQ [] noCall) (getLQ Tryz.ftLF) Tryz.ptF Tryz.tm 2000 60) Tryz.eF62.K Tryz.eF62.args Tryz.eF62.heap Tryz.eF62.nx = some Tryz.eF62.out := by kernel_rfl
theorem Tryz.kF62 : EntOk Tryz.prog Tryz.eF62 := entOk_of_runN Tryz.tmOk Tryz.tmMixed Tryz.ftOkF (l := []) .nil Tryz.rF62

def Tryz.eF63 : Ent := ⟨231, [.agg [.ref 6436 1 0 1 none, .ref 6437 1 0 1 none], .imm 0 [] 0],
 [(6437, .arr 3 1 true [.int .i64 0]),
  (6436, .arr 3 1 true [.int .i64 0])], 6442,
 { d := .tuple [.ref 6447 1 0 1 none, .int .i64 0], vc := true, eff := [(6447, some (.arr 3 1 true [.int .i64 0]))], nw := (6442, 6448), met := [6437, 6436] }⟩
theorem Tryz.rF63 : runFI (getL Tryz.frLF) (getL Tryz.fyLF) Tryz.ptF Tryz.tm 2000 (callN (callKQ [] noCall) (getLQ Tryz.ftLF) Tryz.ptF Tryz.tm 2000 60) Tryz.eF63.K Tryz.eF63.args Tryz.eF63.heap Tryz.eF63.nx = some Tryz.eF63.out := by kernel_rfl
theorem Tryz.kF63 : EntOk Tryz.prog Tryz.eF63 := entOk_of_runNI Tryz.tmOk Tryz.tmMixed Tryz.ftOkF Tryz.frOkF Tryz.fyOkF (l := []) .nil Tryz.rF63

def Tryz.eF64 : Ent := ⟨112, [.ptr 6441 0],
 [(6438, .arr 9 1 true [.str [1, 0, 1, 0, 0, 0, 0]]),
  (6437, .arr 3 1 true [.int .i64 0]),
  (6436, .arr 3 1 true [.int .i64 0]),
  (6441, .box [.int .i64 0, .int .i64 0, .ref 6436 1 0 1 none, .ref 6437 1 0 1 none, .imm 0 [] 0, .imm 0 [] 0, .int .u8 0, .int .i64 0, .imm 0 [] 0, .str [], .str [], .imm 0 [] 0, .imm 0 [] 0, .ref 6438 1 0 1 none, .int .i64 0, .imm 0 [] 0, .imm 0 [] 0])], 6442,
 { d := .tuple [], vc := true, eff := [(6438, some (.arr 9 1 true [.str []])),
  (6441, some (.box [.int .i64 0, .int .i64 0, .ref 6436 1 0 1 none, .ref 6437 1 0 1 none, .ref 6530 1 0 1 none, .ref 6461 5 0 0 none, .int .u8 0, .int .i64 0, .imm 0 [] 0, .str [], .str [], .imm 0 [] 0, .imm 0 [] 0, .ref 6438 1 0 0 none, .int .i64 0, .ref 6524 5 0 3 none, .imm 0 [] 0])),
  (6524, some (.arr 287 5 true [.agg [.int .u8 1, .int .i64 0, .int .i64 1, .int .i64 8, .str []], .agg [.int .u8 2, .int .i64 0, .int .i64 1, .int .i64 8, .str [1, 0, 1, 0, 0, 0, 0]], .agg [.int .u8 3, .int .i64 0, .int .i64 1, .int .i64 0, .str [1, 0, 1, 0, 0, 0, 0]]])),
  (6461, some (.arr 119 5 true [.agg [.int .i64 0, .int .i64 0, .int .i64 0, .int .i64 0, .str []]])),
  (6530, some (.arr 9 1 true [.str [1, 0, 1, 0, 0, 0, 0]]))], nw := (6442, 6532), met := [6438, 6437, 6436, 6441] }⟩
theorem Tryz.rF64 : runFQ (getLQ Tryz.ftLF) Tryz.ptF Tryz.tm 2000 (callN (callKQ [Tryz.eF63] noCall) (getLQ Tryz.ftLF) Tryz.ptF Tryz.tm 2000 60) Tryz.eF64.K Tryz.eF64.args Tryz.eF64.heap Tryz.eF64.nx = some Tryz.eF64.out := by kernel_rfl
theorem Tryz.kF64 : EntOk Tryz.prog Tryz.eF64 := entOk_of_runN Tryz.tmOk Tryz.tmMixed Tryz.ftOkF (l := [Tryz.eF63]) (.cons Tryz.kF63 .nil) Tryz.rF64

def Tryz.eF65 : Ent := ⟨52, [.ptr 6395 0],
 [(6533, .arr 287 5 true [.agg [.int .u8 1, .int .i64 0, .int .i64 1, .int .i64 8, .str []], .agg [.int .u8 2, .int .i64 0, .int .i64 1, .int .i64 8, .str [1, 0, 1, 0, 0, 0, 0]], .agg [.int .u8 3, .int .i64 0, .int .i64 1, .int .i64 0, .str [1, 0, 1, 0, 0, 0, 0]]]),
  (6438, .arr 9 1 true [.str []]),
  (6461, .arr 119 5 true [.agg [.int .i64 0, .int .i64 0, .int .i64 0, .int .i64 0, .str []]]),
  (6530, .arr 9 1 true [.str [1, 0, 1, 0, 0, 0, 0]]),
  (6437, .arr 3 1 true [.int .i64 0]),
  (6436, .arr 3 1 true [.int .i64 0]),
  (6394, .arr 61 15 false [.agg [.int .i64 0, .int .i64 0, .ref 6436 1 0 1 none, .ref 6437 1 0 1 none, .ref 6530 1 0 1 none, .ref 6461 5 0 0 none, .int .u8 0, .int .i64 0, .imm 0 [] 0, .str [], .str [], .imm 0 [] 0, .imm 0 [] 0, .ref 6438 1 0 0 none, .int .i64 0]]),
  (6382, .arr 3 1 true [.int .i64 0]),
  (6381, .arr 3 1 true [.int .i64 0]),
  (6384, .arr 56 2 false [.agg [.ref 6381 1 0 1 none, .ref 6382 1 0 1 none]]),
  (6395, .box [.int .i64 0, .ref 6384 2 0 1 none, .ref 6394 15 0 1 none, .imm 0 [] 0, .ref 6533 5 0 3 none, .imm 10 [] 0])], 6534,
 { d := .tuple [], vc := true, eff := [(6395, some (.box [.int .i64 0, .ref 6384 2 0 1 none, .ref 6394 15 0 1 none, .imm 0 [] 0, .ref 6533 5 0 3 none, .imm 10 [] 0]))], nw := (6534, 6600), met := [6533, 6438, 6461, 6530, 6437, 6436, 6394, 6382, 6381, 6384, 6395] }⟩
theorem Tryz.rF65 : runFQ (getLQ Tryz.ftLF) Tryz.ptF Tryz.tm 2000 (callN (callKQ [] noCall) (getLQ Tryz.ftLF) Tryz.ptF Tryz.tm 2000 60) Tryz.eF65.K Tryz.eF65.args Tryz.eF65.heap Tryz.eF65.nx = some Tryz.eF65.out := by kernel_rfl
theorem Tryz.kF65 : EntOk Tryz.prog Tryz.eF65 := entOk_of_runN Tryz.tmOk Tryz.tmMixed Tryz.ftOkF (l := []) .nil Tryz.rF65

def Tryz.eF66 : Ent := ⟨41, [.agg [.int .i64 0, .ref 6107 2 0 1 none, .ref 6117 15 0 1 none, .imm 0 [] 0]],
 [(6113, .arr 9 1 true [.str [1, 0, 1, 0, 0, 0, 0]]),
  (6112, .arr 3 1 true [.int .i64 0]),
  (6111, .arr 3 1 true [.int .i64 0]),
  (6117, .arr 61 15 false [.agg [.int .i64 0, .int .i64 0, .ref 6111 1 0 1 none, .ref 6112 1 0 1 none, .imm 0 [] 0, .imm 0 [] 0, .int .u8 0, .int .i64 0, .imm 0 [] 0, .str [], .str [], .imm 0 [] 0, .imm 0 [] 0, .ref 6113 1 0 1 none, .int .i64 0]]),
  (6105, .arr 3 1 true [.int .i64 0]),
  (6104, .arr 3 1 true [.int .i64 0]),
  (6107, .arr 56 2 false [.agg [.ref 6104 1 0 1 none, .ref 6105 1 0 1 none]])], 6334,
 { d := .int .i64 0, vc := true, eff := [], nw := (6334, 6377), met := [6113, 6112, 6111, 6117, 6105, 6104, 6107] }⟩
theorem Tryz.rF66 : runFQ (getLQ Tryz.ftLF) Tryz.ptF Tryz.tm 2000 (callN (callKQ [] noCall) (getLQ Tryz.ftLF) Tryz.ptF Tryz.tm 2000 60) Tryz.eF66.K Tryz.eF66.args Tryz.eF66.heap Tryz.eF66.nx = some Tryz.eF66.out := by kernel_rfl
theorem Tryz.kF66 : EntOk Tryz.prog Tryz.eF66 := entOk_of_runN Tryz.tmOk Tryz.tmMixed Tryz.ftOkF (l := []) .nil Tryz.rF66

def Tryz.eF67 : Ent := ⟨131, [.agg [.bool true, .int .i64 0, .ref 6107 2 0 1 none, .ref 6117 15 0 1 none, .imm 0 [] 0, .imm 0 [] 0, .imm 0 [] 0, .imm 0 [] 0], .bool true],
 [(6113, .arr 9 1 true [.str [1, 0, 1, 0, 0, 0, 0]]),
  (6112, .arr 3 1 true [.int .i64 0]),
  (6111, .arr 3 1 true [.int .i64 0]),
  (6117, .arr 61 15 false [.agg [.int .i64 0, .int .i64 0, .ref 6111 1 0 1 none, .ref 6112 1 0 1 none, .imm 0 [] 0, .imm 0 [] 0, .int .u8 0, .int .i64 0, .imm 0 [] 0, .str [], .str [], .imm 0 [] 0, .imm 0 [] 0, .ref 6113 1 0 1 none, .int .i64 0]]),
  (6105, .arr 3 1 true [.int .i64 0]),
  (6104, .arr 3 1 true [.int .i64 0]),
  (6107, .arr 56 2 false [.agg [.ref 6104 1 0 1 none, .ref 6105 1 0 1 none]])], 6249,
 { d := .int .i64 0, vc := true, eff := [], nw := (6249, 6332), met := [6113, 6112, 6111, 6117, 6105, 6104, 6107] }⟩
theorem Tryz.rF67 : runFQ (getLQ Tryz.ftLF) Tryz.ptF Tryz.tm 2000 (callN (callKQ [] noCall) (getLQ Tryz.ftLF) Tryz.ptF Tryz.tm 2000 60) Tryz.eF67.K Tryz.eF67.args Tryz.eF67.heap Tryz.eF67.nx = some Tryz.eF67.out := by kernel_rfl
theorem Tryz.kF67 : EntOk Tryz.prog Tryz.eF67 := entOk_of_runN Tryz.tmOk Tryz.tmMixed Tryz.ftOkF (l := []) .nil Tryz.rF67

def Tryz.eF68 : Ent := ⟨15, [.agg [.int .i64 0, .ref 6107 2 0 1 none, .ref 6117 15 0 1 none, .imm 0 [] 0]],
 [(6113, .arr 9 1 true [.str [1, 0, 1, 0, 0, 0, 0]]),
  (6112, .arr 3 1 true [.int .i64 0]),
  (6111, .arr 3 1 true [.int .i64 0]),
  (6117, .arr 61 15 false [.agg [.int .i64 0, .int .i64 0, .ref 6111 1 0 1 none, .ref 6112 1 0 1 none, .imm 0 [] 0, .imm 0 [] 0, .int .u8 0, .int .i64 0, .imm 0 [] 0, .str [], .str [], .imm 0 [] 0, .imm 0 [] 0, .ref 6113 1 0 1 none, .int .i64 0]]),
  (6105, .arr 3 1 true [.int .i64 0]),
  (6104, .arr 3 1 true [.int .i64 0]),
  (6107, .arr 56 2 false [.agg [.ref 6104 1 0 1 none, .ref 6105 1 0 1 none]])], 6332,
 { d := .tuple [.agg [.int .i64 0, .ref 6384 2 0 1 none, .ref 6394 15 0 1 none, .imm 0 [] 0], .ref 6533 5 0 3 none, .imm 10 [] 0, .int .i64 0], vc := true, eff := [(6533, some (.arr 287 5 true [.agg [.int .u8 1, .int .i64 0, .int .i64 1, .int .i64 8, .str []], .agg [.int .u8 2, .int .i64 0, .int .i64 1, .int .i64 8, .str [1, 0, 1, 0, 0, 0, 0]], .agg [.int .u8 3, .int .i64 0, .int .i64 1, .int .i64 0, .str [1, 0, 1, 0, 0, 0, 0]]])),
  (6438, some (.arr 9 1 true [.str []])),
  (6461, some (.arr 119 5 true [.agg [.int .i64 0, .int .i64 0, .int .i64 0, .int .i64 0, .str []]])),
  (6530, some (.arr 9 1 true [.str [1, 0, 1, 0, 0, 0, 0]])),
  (6437, some (.arr 3 1 true [.int .i64 0])),
  (6436, some (.arr 3 1 true [.int .i64 0])),
  (6394, some (.arr 61 15 false [.agg [.int .i64 0, .int .i64 0, .ref 6436 1 0 1 none, .ref 6437 1 0 1 none, .ref 6530 1 0 1 none, .ref 6461 5 0 0 none, .int .u8 0, .int .i64 0, .imm 0 [] 0, .str [], .str [], .imm 0 [] 0, .imm 0 [] 0, .ref 6438 1 0 0 none, .int .i64 0]])),
  (6382, some (.arr 3 1 true [.int .i64 0])),
  (6381, some (.arr 3 1 true [.int .i64 0])),
  (6384, some (.arr 56 2 false [.agg [.ref 6381 1 0 1 none, .ref 6382 1 0 1 none]]))], nw := (6332, 6600), met := [6113, 6112, 6111, 6117, 6105, 6104, 6107] }⟩
theorem Tryz.rF68 : runFQ (getLQ Tryz.ftLF) Tryz.ptF Tryz.tm 2000 (callN (callKQ [Tryz.eF65, Tryz.eF66, Tryz.eF64] noCall) (getLQ Tryz.ftLF) Tryz.ptF Tryz.tm 2000 60) Tryz.eF68.K Tryz.eF68.args Tryz.eF68.heap Tryz.eF68.nx = some Tryz.eF68.out := by kernel_rfl
theorem Tryz.kF68 : EntOk Tryz.prog Tryz.eF68 := entOk_of_runN Tryz.tmOk Tryz.tmMixed Tryz.ftOkF (l := [Tryz.eF65, Tryz.eF66, Tryz.eF64]) (.cons Tryz.kF65 (.cons Tryz.kF66 (.cons Tryz.kF64 .nil))) Tryz.rF68

def Tryz.eF69 : Ent := ⟨56, [.agg [.ref 6095 2 0 1 none, .ref 6120 8 0 1 none, .imm 0 [] 0]],
 [(6113, .arr 9 1 true [.str [1, 0, 1, 0, 0, 0, 0]]),
  (6112, .arr 3 1 true [.int .i64 0]),
  (6111, .arr 3 1 true [.int .i64 0]),
  (6117, .arr 61 15 false [.agg [.int .i64 0, .int .i64 0, .ref 6111 1 0 1 none, .ref 6112 1 0 1 none, .imm 0 [] 0, .imm 0 [] 0, .int .u8 0, .int .i64 0, .imm 0 [] 0, .str [], .str [], .imm 0 [] 0, .imm 0 [] 0, .ref 6113 1 0 1 none, .int .i64 0]]),
  (6105, .arr 3 1 true [.int .i64 0]),
  (6104, .arr 3 1 true [.int .i64 0]),
  (6107, .arr 56 2 false [.agg [.ref 6104 1 0 1 none, .ref 6105 1 0 1 none]]),
  (6120, .arr 132 8 false [.agg [.bool true, .int .i64 0, .ref 6107 2 0 1 none, .ref 6117 15 0 1 none, .imm 0 [] 0, .imm 0 [] 0, .imm 0 [] 0, .imm 0 [] 0]]),
  (6093, .arr 3 1 true [.int .i64 0]),
  (6092, .arr 3 1 true [.int .i64 0]),
  (6095, .arr 56 2 false [.agg [.ref 6092 1 0 1 none, .ref 6093 1 0 1 none]])], 6127,
 { d := .int .i64 0, vc := true, eff := [], nw := (6127, 6243), met := [6113, 6112, 6111, 6117, 6105, 6104, 6107, 6120, 6093, 6092, 6095] }⟩
theorem Tryz.rF69 : runFQ (getLQ Tryz.ftLF) Tryz.ptF Tryz.tm 2000 (callN (callKQ [] noCall) (getLQ Tryz.ftLF) Tryz.ptF Tryz.tm 2000 60) Tryz.eF69.K Tryz.eF69.args Tryz.eF69.heap Tryz.eF69.nx = some Tryz.eF69.out := by kernel_rfl
theorem Tryz.kF69 : EntOk Tryz.prog Tryz.eF69 := entOk_of_runN Tryz.tmOk Tryz.tmMixed Tryz.ftOkF (l := []) .nil Tryz.rF69

def Tryz.eF70 : Ent := ⟨91, [.ptr 6826 0],
 [(6438, .arr 9 1 true [.str []]),
  (6461, .arr 119 5 true [.agg [.int .i64 0, .int .i64 0, .int .i64 0, .int .i64 0, .str []]]),
  (6530, .arr 9 1 true [.str [1, 0, 1, 0, 0, 0, 0]]),
  (6437, .arr 3 1 true [.int .i64 0]),
  (6436, .arr 3 1 true [.int .i64 0]),
  (6394, .arr 61 15 false [.agg [.int .i64 0, .int .i64 0, .ref 6436 1 0 1 none, .ref 6437 1 0 1 none, .ref 6530 1 0 1 none, .ref 6461 5 0 0 none, .int .u8 0, .int .i64 0, .imm 0 [] 0, .str [], .str [], .imm 0 [] 0, .imm 0 [] 0, .ref 6438 1 0 0 none, .int .i64 0]]),
  (6382, .arr 3 1 true [.int .i64 0]),
  (6381, .arr 3 1 true [.int .i64 0]),
  (6384, .arr 56 2 false [.agg [.ref 6381 1 0 1 none, .ref 6382 1 0 1 none]]),
  (6826, .box [.int .i64 0, .ref 6384 2 0 1 none, .ref 6394 15 0 1 none, .imm 0 [] 0, .imm 0 [] 0, .imm 0 [] 0])], 6859,
 { d := .mref 6859, vc := true, eff := [(6859, some (.map []))], nw := (6859, 6924), met := [6438, 6461, 6530, 6437, 6436, 6394, 6382, 6381, 6384, 6826] }⟩
theorem Tryz.rF70 : runFQ (getLQ Tryz.ftLF) Tryz.ptF Tryz.tm 2000 (callN (callKQ [] noCall) (getLQ Tryz.ftLF) Tryz.ptF Tryz.tm 2000 60) Tryz.eF70.K Tryz.eF70.args Tryz.eF70.heap Tryz.eF70.nx = some Tryz.eF70.out := by kernel_rfl
theorem Tryz.kF70 : EntOk Tryz.prog Tryz.eF70 := entOk_of_runN Tryz.tmOk Tryz.tmMixed Tryz.ftOkF (l := []) .nil Tryz.rF70

def Tryz.eF71 : Ent := ⟨138, [.int .i64 1, .ref 6943 1 0 3 none],
 [(6943, .arr 9 1 true [.str [1, 0, 1, 8], .str [2, 0, 1, 8, 7, 1, 0, 1, 0, 0, 0, 0], .str [3, 0, 1, 7, 1, 0, 1, 0, 0, 0, 0]])], 6994,
 { d := .tuple [.agg [.ref 6996 1 0 1 (some 1), .ref 7012 5 0 0 none], .int .i64 0], vc := true, eff := [(7012, some (.arr 119 5 true [.agg [.int .i64 0, .int .i64 0, .int .i64 0, .int .i64 0, .str []]])),
  (7048, some (.arr 9 1 true [.str [1, 0, 1, 0, 0, 0, 0]])),
  (6996, some (.arr 40 1 false [.ref 7048 1 0 1 none]))], nw := (6994, 7049), met := [6943] }⟩
theorem Tryz.rF71 : runFQ (getLQ Tryz.ftLF) Tryz.ptF Tryz.tm 2000 (callN (callKQ [] noCall) (getLQ Tryz.ftLF) Tryz.ptF Tryz.tm 2000 60) Tryz.eF71.K Tryz.eF71.args Tryz.eF71.heap Tryz.eF71.nx = some Tryz.eF71.out := by kernel_rfl
theorem Tryz.kF71 : EntOk Tryz.prog Tryz.eF71 := entOk_of_runN Tryz.tmOk Tryz.tmMixed Tryz.ftOkF (l := []) .nil Tryz.rF71

def Tryz.eF72 : Ent := ⟨120, [.agg [.bool true, .int .i64 0, .ref 6384 2 0 1 none, .ref 6394 15 0 1 none, .imm 0 [] 0, .imm 0 [] 0, .ref 6744 2 0 3 none, .imm 10 [] 0]],
 [(6742, .arr 5 1 true [.int .u8 11, .int .u8 3, .int .u8 0, .int .u8 1, .int .u8 7, .int .u8 1, .int .u8 0, .int .u8 1, .int .u8 0, .int .u8 0, .int .u8 0, .int .u8 0]),
  (6738, .arr 5 1 true [.int .u8 12, .int .u8 2, .int .u8 0, .int .u8 1, .int .u8 8, .int .u8 7, .int .u8 1, .int .u8 0, .int .u8 1, .int .u8 0, .int .u8 0, .int .u8 0, .int .u8 0]),
  (6734, .arr 5 1 true [.int .u8 4, .int .u8 1, .int .u8 0, .int .u8 1, .int .u8 8]),
  (6744, .arr 307 2 false [.agg [.bool false, .ref 6734 1 0 5 none], .agg [.bool false, .ref 6738 1 0 13 none], .agg [.bool false, .ref 6742 1 0 12 none]]),
  (6438, .arr 9 1 true [.str []]),
  (6461, .arr 119 5 true [.agg [.int .i64 0, .int .i64 0, .int .i64 0, .int .i64 0, .str []]]),
  (6530, .arr 9 1 true [.str [1, 0, 1, 0, 0, 0, 0]]),
  (6437, .arr 3 1 true [.int .i64 0]),
  (6436, .arr 3 1 true [.int .i64 0]),
  (6394, .arr 61 15 false [.agg [.int .i64 0, .int .i64 0, .ref 6436 1 0 1 none, .ref 6437 1 0 1 none, .ref 6530 1 0 1 none, .ref 6461 5 0 0 none, .int .u8 0, .int .i64 0, .imm 0 [] 0, .str [], .str [], .imm 0 [] 0, .imm 0 [] 0, .ref 6438 1 0 0 none, .int .i64 0]]),
  (6382, .arr 3 1 true [.int .i64 0]),
  (6381, .arr 3 1 true [.int .i64 0]),
  (6384, .arr 56 2 false [.agg [.ref 6381 1 0 1 none, .ref 6382 1 0 1 none]])], 6819,
 { d := .int .i64 0, vc := true, eff := [], nw := (6819, 7058), met := [6742, 6738, 6734, 6744, 6438, 6461, 6530, 6437, 6436, 6394, 6382, 6381, 6384] }⟩
theorem Tryz.rF72 : runFQ (getLQ Tryz.ftLF) Tryz.ptF Tryz.tm 2000 (callN (callKQ [Tryz.eF71, Tryz.eF70] noCall) (getLQ Tryz.ftLF) Tryz.ptF Tryz.tm 2000 60) Tryz.eF72.K Tryz.eF72.args Tryz.eF72.heap Tryz.eF72.nx = some Tryz.eF72.out := by kernel_rfl
theorem Tryz.kF72 : EntOk Tryz.prog Tryz.eF72 := entOk_of_runN Tryz.tmOk Tryz.tmMixed Tryz.ftOkF (l := [Tryz.eF71, Tryz.eF70]) (.cons Tryz.kF71 (.cons Tryz.kF70 .nil)) Tryz.rF72

def Tryz.eF73 : Ent := ⟨91, [.ptr 7079 0],
 [(6438, .arr 9 1 true [.str []]),
  (6461, .arr 119 5 true [.agg [.int .i64 0, .int .i64 0, .int .i64 0, .int .i64 0, .str []]]),
  (6530, .arr 9 1 true [.str [1, 0, 1, 0, 0, 0, 0]]),
  (6437, .arr 3 1 true [.int .i64 0]),
  (6436, .arr 3 1 true [.int .i64 0]),
  (6394, .arr 61 15 false [.agg [.int .i64 0, .int .i64 0, .ref 6436 1 0 1 none, .ref 6437 1 0 1 none, .ref 6530 1 0 1 none, .ref 6461 5 0 0 none, .int .u8 0, .int .i64 0, .imm 0 [] 0, .str [], .str [], .imm 0 [] 0, .imm 0 [] 0, .ref 6438 1 0 0 none, .int .i64 0]]),
  (6382, .arr 3 1 true [.int .i64 0]),
  (6381, .arr 3 1 true [.int .i64 0]),
  (6384, .arr 56 2 false [.agg [.ref 6381 1 0 1 none, .ref 6382 1 0 1 none]]),
  (7079, .box [.int .i64 0, .ref 6384 2 0 1 none, .ref 6394 15 0 1 none, .imm 0 [] 0, .imm 0 [] 0, .imm 0 [] 0])], 7112,
 { d := .mref 7112, vc := true, eff := [(7112, some (.map []))], nw := (7112, 7177), met := [6438, 6461, 6530, 6437, 6436, 6394, 6382, 6381, 6384, 7079] }⟩
theorem Tryz.rF73 : runFQ (getLQ Tryz.ftLF) Tryz.ptF Tryz.tm 2000 (callN (callKQ [] noCall) (getLQ Tryz.ftLF) Tryz.ptF Tryz.tm 2000 60) Tryz.eF73.K Tryz.eF73.args Tryz.eF73.heap Tryz.eF73.nx = some Tryz.eF73.out := by kernel_rfl
theorem Tryz.kF73 : EntOk Tryz.prog Tryz.eF73 := entOk_of_runN Tryz.tmOk Tryz.tmMixed Tryz.ftOkF (l := []) .nil Tryz.rF73

def Tryz.eF74 : Ent := ⟨138, [.int .i64 1, .ref 7196 1 0 3 none],
 [(7196, .arr 9 1 true [.str [1, 0, 1, 8], .str [2, 0, 1, 8, 7, 1, 0, 1, 0, 0, 0, 0], .str [3, 0, 1, 7, 1, 0, 1, 0, 0, 0, 0]])], 7247,
 { d := .tuple [.agg [.ref 7249 1 0 1 (some 1), .ref 7265 5 0 0 none], .int .i64 0], vc := true, eff := [(7265, some (.arr 119 5 true [.agg [.int .i64 0, .int .i64 0, .int .i64 0, .int .i64 0, .str []]])),
  (7301, some (.arr 9 1 true [.str [1, 0, 1, 0, 0, 0, 0]])),
  (7249, some (.arr 40 1 false [.ref 7301 1 0 1 none]))], nw := (7247, 7302), met := [7196] }⟩
theorem Tryz.rF74 : runFQ (getLQ Tryz.ftLF) Tryz.ptF Tryz.tm 2000 (callN (callKQ [] noCall) (getLQ Tryz.ftLF) Tryz.ptF Tryz.tm 2000 60) Tryz.eF74.K Tryz.eF74.args Tryz.eF74.heap Tryz.eF74.nx = some Tryz.eF74.out := by kernel_rfl
theorem Tryz.kF74 : EntOk Tryz.prog Tryz.eF74 := entOk_of_runN Tryz.tmOk Tryz.tmMixed Tryz.ftOkF (l := []) .nil Tryz.rF74

def Tryz.eF75 : Ent := ⟨140, [.agg [.bool true, .int .i64 0, .ref 6384 2 0 1 none, .ref 6394 15 0 1 none, .imm 0 [] 0, .imm 0 [] 0, .ref 6744 2 0 3 none, .imm 10 [] 0], .ptr 7064 0],
 [(7064, .box [.imm 0 [] 0]),
  (6742, .arr 5 1 true [.int .u8 11, .int .u8 3, .int .u8 0, .int .u8 1, .int .u8 7, .int .u8 1, .int .u8 0, .int .u8 1, .int .u8 0, .int .u8 0, .int .u8 0, .int .u8 0]),
  (6738, .arr 5 1 true [.int .u8 12, .int .u8 2, .int .u8 0, .int .u8 1, .int .u8 8, .int .u8 7, .int .u8 1, .int .u8 0, .int .u8 1, .int .u8 0, .int .u8 0, .int .u8 0, .int .u8 0]),
  (6734, .arr 5 1 true [.int .u8 4, .int .u8 1, .int .u8 0, .int .u8 1, .int .u8 8]),
  (6744, .arr 307 2 false [.agg [.bool false, .ref 6734 1 0 5 none], .agg [.bool false, .ref 6738 1 0 13 none], .agg [.bool false, .ref 6742 1 0 12 none]]),
  (6438, .arr 9 1 true [.str []]),
  (6461, .arr 119 5 true [.agg [.int .i64 0, .int .i64 0, .int .i64 0, .int .i64 0, .str []]]),
  (6530, .arr 9 1 true [.str [1, 0, 1, 0, 0, 0, 0]]),
  (6437, .arr 3 1 true [.int .i64 0]),
  (6436, .arr 3 1 true [.int .i64 0]),
  (6394, .arr 61 15 false [.agg [.int .i64 0, .int .i64 0, .ref 6436 1 0 1 none, .ref 6437 1 0 1 none, .ref 6530 1 0 1 none, .ref 6461 5 0 0 none, .int .u8 0, .int .i64 0, .imm 0 [] 0, .str [], .str [], .imm 0 [] 0, .imm 0 [] 0, .ref 6438 1 0 0 none, .int .i64 0]]),
  (6382, .arr 3 1 true [.int .i64 0]),
  (6381, .arr 3 1 true [.int .i64 0]),
  (6384, .arr 56 2 false [.agg [.ref 6381 1 0 1 none, .ref 6382 1 0 1 none]])], 7067,
 { d := .tuple [.agg [.bool true, .int .i64 0, .ref 7333 2 0 1 none, .ref 7343 15 0 1 none, .imm 0 [] 0, .ref 7324 1 0 30 none, .imm 0 [] 0, .imm 0 [] 0], .int .i64 0], vc := true, eff := [(7064, some (.box [.imm 0 [] 0])),
  (7324, some (.arr 5 1 true [.int .u8 4, .int .u8 1, .int .u8 0, .int .u8 1, .int .u8 8, .int .u8 12, .int .u8 2, .int .u8 0, .int .u8 1, .int .u8 8, .int .u8 7, .int .u8 1, .int .u8 0, .int .u8 1, .int .u8 0, .int .u8 0, .int .u8 0, .int .u8 0, .int .u8 11, .int .u8 3, .int .u8 0, .int .u8 1, .int .u8 7, .int .u8 1, .int .u8 0, .int .u8 1, .int .u8 0, .int .u8 0, .int .u8 0, .int .u8 0])),
  (7339, some (.arr 9 1 true [.str [1, 0, 1, 0, 0, 0, 0]])),
  (7338, some (.arr 3 1 true [.int .i64 0])),
  (7337, some (.arr 3 1 true [.int .i64 0])),
  (7343, some (.arr 61 15 false [.agg [.int .i64 0, .int .i64 0, .ref 7337 1 0 1 none, .ref 7338 1 0 1 none, .ref 7339 1 0 1 none, .imm 5 [] 9, .int .u8 0, .int .i64 0, .imm 0 [] 0, .str [], .str [], .imm 0 [] 0, .imm 0 [] 0, .imm 1 [] 9, .int .i64 0]])),
  (7331, some (.arr 3 1 true [.int .i64 0])),
  (7330, some (.arr 3 1 true [.int .i64 0])),
  (7333, some (.arr 56 2 false [.agg [.ref 7330 1 0 1 none, .ref 7331 1 0 1 none]]))], nw := (7067, 7344), met := [7064, 6742, 6738, 6734, 6744, 6438, 6461, 6530, 6437, 6436, 6394, 6382, 6381, 6384] }⟩
theorem Tryz.rF75 : runFQ (getLQ Tryz.ftLF) Tryz.ptF Tryz.tm 2000 (callN (callKQ [Tryz.eF74, Tryz.eF73] noCall) (getLQ Tryz.ftLF) Tryz.ptF Tryz.tm 2000 60) Tryz.eF75.K Tryz.eF75.args Tryz.eF75.heap Tryz.eF75.nx = some Tryz.eF75.out := by kernel_rfl
theorem Tryz.kF75 : EntOk Tryz.prog Tryz.eF75 := entOk_of_runN Tryz.tmOk Tryz.tmMixed Tryz.ftOkF (l := [Tryz.eF74, Tryz.eF73]) (.cons Tryz.kF74 (.cons Tryz.kF73 .nil)) Tryz.rF75

def Tryz.eF76 : Ent := ⟨146, [.ptr 6121 0],
 [(7324, .arr 5 1 true [.int .u8 4, .int .u8 1, .int .u8 0, .int .u8 1, .int .u8 8, .int .u8 12, .int .u8 2, .int .u8 0, .int .u8 1, .int .u8 8, .int .u8 7, .int .u8 1, .int .u8 0, .int .u8 1, .int .u8 0, .int .u8 0, .int .u8 0, .int .u8 0, .int .u8 11, .int .u8 3, .int .u8 0, .int .u8 1, .int .u8 7, .int .u8 1, .int .u8 0, .int .u8 1, .int .u8 0, .int .u8 0, .int .u8 0, .int .u8 0]),
  (7339, .arr 9 1 true [.str [1, 0, 1, 0, 0, 0, 0]]),
  (7338, .arr 3 1 true [.int .i64 0]),
  (7337, .arr 3 1 true [.int .i64 0]),
  (7343, .arr 61 15 false [.agg [.int .i64 0, .int .i64 0, .ref 7337 1 0 1 none, .ref 7338 1 0 1 none, .ref 7339 1 0 1 none, .imm 5 [] 9, .int .u8 0, .int .i64 0, .imm 0 [] 0, .str [], .str [], .imm 0 [] 0, .imm 0 [] 0, .imm 1 [] 9, .int .i64 0]]),
  (7331, .arr 3 1 true [.int .i64 0]),
  (7330, .arr 3 1 true [.int .i64 0]),
  (7333, .arr 56 2 false [.agg [.ref 7330 1 0 1 none, .ref 7331 1 0 1 none]]),
  (7388, .arr 132 8 false [.agg [.bool true, .int .i64 0, .ref 7333 2 0 1 none, .ref 7343 15 0 1 none, .imm 0 [] 0, .ref 7324 1 0 30 none, .imm 0 [] 0, .imm 0 [] 0]]),
  (7349, .arr 3 1 true [.int .i64 0]),
  (7348, .arr 3 1 true [.int .i64 0]),
  (7351, .arr 56 2 false [.agg [.ref 7348 1 0 1 none, .ref 7349 1 0 1 none]]),
  (6121, .box [.ref 7351 2 0 1 none, .ref 7388 8 0 1 none, .imm 10 [] 0, .int .i64 2])], 7392,
 { d := .int .i64 0, vc := true, eff := [], nw := (7392, 7395), met := [7324, 7339, 7338, 7337, 7343, 7331, 7330, 7333, 7388, 7349, 7348, 7351, 6121] }⟩
theorem Tryz.rF76 : runFI (getL Tryz.frLF) (getL Tryz.fyLF) Tryz.ptF Tryz.tm 2000 (callN (callKQ [] noCall) (getLQ Tryz.ftLF) Tryz.ptF Tryz.tm 2000 60) Tryz.eF76.K Tryz.eF76.args Tryz.eF76.heap Tryz.eF76.nx = some Tryz.eF76.out := by kernel_rfl
theorem Tryz.kF76 : EntOk Tryz.prog Tryz.eF76 := entOk_of_runNI Tryz.tmOk Tryz.tmMixed Tryz.ftOkF Tryz.frOkF Tryz.fyOkF (l := []) .nil Tryz.rF76

def Tryz.eF77 : Ent := ⟨145, [.ptr 6121 0, .agg [.int .u8 1, .int .i64 0, .int .i64 0, .int .i64 0, .int .i64 0, .int .i64 0, .int .u8 0, .int .i64 0, .imm 0 [] 0, .int .i64 0, .str [], .str [], .int .i64 0, .int .i64 0, .imm 0 [] 0, .int .i64 0, .int .i64 0, .int .i64 0]],
 [(6113, .arr 9 1 true [.str [1, 0, 1, 0, 0, 0, 0]]),
  (6112, .arr 3 1 true [.int .i64 0]),
  (6111, .arr 3 1 true [.int .i64 0]),
  (6117, .arr 61 15 false [.agg [.int .i64 0, .int .i64 0, .ref 6111 1 0 1 none, .ref 6112 1 0 1 none, .imm 0 [] 0, .imm 0 [] 0, .int .u8 0, .int .i64 0, .imm 0 [] 0, .str [], .str [], .imm 0 [] 0, .imm 0 [] 0, .ref 6113 1 0 1 none, .int .i64 0]]),
  (6105, .arr 3 1 true [.int .i64 0]),
  (6104, .arr 3 1 true [.int .i64 0]),
  (6107, .arr 56 2 false [.agg [.ref 6104 1 0 1 none, .ref 6105 1 0 1 none]]),
  (6120, .arr 132 8 false [.agg [.bool true, .int .i64 0, .ref 6107 2 0 1 none, .ref 6117 15 0 1 none, .imm 0 [] 0, .imm 0 [] 0, .imm 0 [] 0, .imm 0 [] 0]]),
  (6093, .arr 3 1 true [.int .i64 0]),
  (6092, .arr 3 1 true [.int .i64 0]),
  (6095, .arr 56 2 false [.agg [.ref 6092 1 0 1 none, .ref 6093 1 0 1 none]]),
  (6121, .box [.ref 6095 2 0 1 none, .ref 6120 8 0 1 none, .imm 0 [] 0, .int .i64 0])], 6123,
 { d := .int .i64 0, vc := true, eff := [(6121, some (.box [.ref 6758 2 0 1 none, .ref 6783 8 0 1 none, .imm 0 [] 0, .int .i64 1])),
  (6742, some (.arr 5 1 true [.int .u8 11, .int .u8 3, .int .u8 0, .int .u8 1, .int .u8 7, .int .u8 1, .int .u8 0, .int .u8 1, .int .u8 0, .int .u8 0, .int .u8 0, .int .u8 0])),
  (6738, some (.arr 5 1 true [.int .u8 12, .int .u8 2, .int .u8 0, .int .u8 1, .int .u8 8, .int .u8 7, .int .u8 1, .int .u8 0, .int .u8 1, .int .u8 0, .int .u8 0, .int .u8 0, .int .u8 0])),
  (6734, some (.arr 5 1 true [.int .u8 4, .int .u8 1, .int .u8 0, .int .u8 1, .int .u8 8])),
  (6744, some (.arr 307 2 false [.agg [.bool false, .ref 6734 1 0 5 none], .agg [.bool false, .ref 6738 1 0 13 none], .agg [.bool false, .ref 6742 1 0 12 none]])),
  (6438, some (.arr 9 1 true [.str []])),
  (6461, some (.arr 119 5 true [.agg [.int .i64 0, .int .i64 0, .int .i64 0, .int .i64 0, .str []]])),
  (6530, some (.arr 9 1 true [.str [1, 0, 1, 0, 0, 0, 0]])),
  (6437, some (.arr 3 1 true [.int .i64 0])),
  (6436, some (.arr 3 1 true [.int .i64 0])),
  (6394, some (.arr 61 15 false [.agg [.int .i64 0, .int .i64 0, .ref 6436 1 0 1 none, .ref 6437 1 0 1 none, .ref 6530 1 0 1 none, .ref 6461 5 0 0 none, .int .u8 0, .int .i64 0, .imm 0 [] 0, .str [], .str [], .imm 0 [] 0, .imm 0 [] 0, .ref 6438 1 0 0 none, .int .i64 0]])),
  (6382, some (.arr 3 1 true [.int .i64 0])),
  (6381, some (.arr 3 1 true [.int .i64 0])),
  (6384, some (.arr 56 2 false [.agg [.ref 6381 1 0 1 none, .ref 6382 1 0 1 none]])),
  (6783, some (.arr 132 8 false [.agg [.bool true, .int .i64 0, .ref 6384 2 0 1 none, .ref 6394 15 0 1 none, .imm 0 [] 0, .imm 0 [] 0, .ref 6744 2 0 3 none, .imm 10 [] 0]])),
  (6756, some (.arr 3 1 true [.int .i64 0])),
  (6755, some (.arr 3 1 true [.int .i64 0])),
  (6758, some (.arr 56 2 false [.agg [.ref 6755 1 0 1 none, .ref 6756 1 0 1 none]]))], nw := (6123, 6785), met := [6113, 6112, 6111, 6117, 6105, 6104, 6107, 6120, 6093, 6092, 6095, 6121] }⟩
theorem Tryz.rF77 : runFQ (getLQ Tryz.ftLF) Tryz.ptF Tryz.tm 2000 (callN (callKQ [Tryz.eF69, Tryz.eF67, Tryz.eF68] noCall) (getLQ Tryz.ftLF) Tryz.ptF Tryz.tm 2000 60) Tryz.eF77.K Tryz.eF77.args Tryz.eF77.heap Tryz.eF77.nx = some Tryz.eF77.out := by kernel_rfl
theorem Tryz.kF77 : EntOk Tryz.prog Tryz.eF77 := entOk_of_runN Tryz.tmOk Tryz.tmMixed Tryz.ftOkF (l := [Tryz.eF69, Tryz.eF67, Tryz.eF68]) (.cons Tryz.kF69 (.cons Tryz.kF67 (.cons Tryz.kF68 .nil))) Tryz.rF77

def Tryz.eF78 : Ent := ⟨56, [.agg [.ref 5409 2 0 1 none, .ref 5433 8 0 1 none, .imm 0 [] 0]],
 [(5388, .arr 9 1 true [.str [1, 0, 1, 0, 0, 0, 0]]),
  (5365, .arr 3 1 true [.int .i64 0]),
  (5364, .arr 3 1 true [.int .i64 0]),
  (5312, .arr 61 15 false [.agg [.int .i64 0, .int .i64 0, .ref 5364 1 0 1 none, .ref 5365 1 0 1 none, .imm 0 [] 0, .imm 0 [] 0, .int .u8 0, .int .i64 0, .imm 0 [] 0, .str [], .str [], .imm 0 [] 0, .imm 0 [] 0, .ref 5388 1 0 1 none, .int .i64 0]]),
  (5301, .arr 3 1 true [.int .i64 0]),
  (5300, .arr 3 1 true [.int .i64 0]),
  (5303, .arr 56 2 false [.agg [.ref 5300 1 0 1 none, .ref 5301 1 0 1 none]]),
  (5433, .arr 132 8 false [.agg [.bool true, .int .i64 0, .ref 5303 2 0 1 none, .ref 5312 15 0 1 none, .imm 0 [] 0, .imm 1 [] 0, .imm 0 [] 0, .imm 10 [] 0]]),
  (5407, .arr 3 1 true [.int .i64 0]),
  (5406, .arr 3 1 true [.int .i64 0]),
  (5409, .arr 56 2 false [.agg [.ref 5406 1 0 1 none, .ref 5407 1 0 1 none]])], 5973,
 { d := .int .i64 0, vc := true, eff := [], nw := (5973, 6089), met := [5388, 5365, 5364, 5312, 5301, 5300, 5303, 5433, 5407, 5406, 5409] }⟩
theorem Tryz.rF78 : runFQ (getLQ Tryz.ftLF) Tryz.ptF Tryz.tm 2000 (callN (callKQ [] noCall) (getLQ Tryz.ftLF) Tryz.ptF Tryz.tm 2000 60) Tryz.eF78.K Tryz.eF78.args Tryz.eF78.heap Tryz.eF78.nx = some Tryz.eF78.out := by kernel_rfl
theorem Tryz.kF78 : EntOk Tryz.prog Tryz.eF78 := entOk_of_runN Tryz.tmOk Tryz.tmMixed Tryz.ftOkF (l := []) .nil Tryz.rF78

def Tryz.eF79 : Ent := ⟨91, [.ptr 7431 0],
 [(7339, .arr 9 1 true [.str [1, 0, 1, 0, 0, 0, 0]]),
  (7338, .arr 3 1 true [.int .i64 0]),
  (7337, .arr 3 1 true [.int .i64 0]),
  (7343, .arr 61 15 false [.agg [.int .i64 0, .int .i64 0, .ref 7337 1 0 1 none, .ref 7338 1 0 1 none, .ref 7339 1 0 1 none, .imm 5 [] 9, .int .u8 0, .int .i64 0, .imm 0 [] 0, .str [], .str [], .imm 0 [] 0, .imm 0 [] 0, .imm 1 [] 9, .int .i64 0]]),
  (7331, .arr 3 1 true [.int .i64 0]),
  (7330, .arr 3 1 true [.int .i64 0]),
  (7333, .arr 56 2 false [.agg [.ref 7330 1 0 1 none, .ref 7331 1 0 1 none]]),
  (7431, .box [.int .i64 0, .ref 7333 2 0 1 none, .ref 7343 15 0 1 none, .imm 0 [] 0, .imm 0 [] 0, .imm 0 [] 0])], 7464,
 { d := .mref 7464, vc := true, eff := [(7464, some (.map []))], nw := (7464, 7529), met := [7339, 7338, 7337, 7343, 7331, 7330, 7333, 7431] }⟩
theorem Tryz.rF79 : runFQ (getLQ Tryz.ftLF) Tryz.ptF Tryz.tm 2000 (callN (callKQ [] noCall) (getLQ Tryz.ftLF) Tryz.ptF Tryz.tm 2000 60) Tryz.eF79.K Tryz.eF79.args Tryz.eF79.heap Tryz.eF79.nx = some Tryz.eF79.out := by kernel_rfl
theorem Tryz.kF79 : EntOk Tryz.prog Tryz.eF79 := entOk_of_runN Tryz.tmOk Tryz.tmMixed Tryz.ftOkF (l := []) .nil Tryz.rF79

def Tryz.eF80 : Ent := ⟨138, [.int .i64 1, .ref 7540 1 0 3 none],
 [(7540, .arr 9 1 true [.str [1, 0, 1, 8], .str [2, 0, 1, 8, 7, 1, 0, 1, 0, 0, 0, 0], .str [3, 0, 1, 7, 1, 0, 1, 0, 0, 0, 0]])], 7563,
 { d := .tuple [.agg [.ref 7565 1 0 1 (some 1), .ref 7581 5 0 0 none], .int .i64 0], vc := true, eff := [(7581, some (.arr 119 5 true [.agg [.int .i64 0, .int .i64 0, .int .i64 0, .int .i64 0, .str []]])),
  (7617, some (.arr 9 1 true [.str [1, 0, 1, 0, 0, 0, 0]])),
  (7565, some (.arr 40 1 false [.ref 7617 1 0 1 none]))], nw := (7563, 7618), met := [7540] }⟩
theorem Tryz.rF80 : runFQ (getLQ Tryz.ftLF) Tryz.ptF Tryz.tm 2000 (callN (callKQ [] noCall) (getLQ Tryz.ftLF) Tryz.ptF Tryz.tm 2000 60) Tryz.eF80.K Tryz.eF80.args Tryz.eF80.heap Tryz.eF80.nx = some Tryz.eF80.out := by kernel_rfl
theorem Tryz.kF80 : EntOk Tryz.prog Tryz.eF80 := entOk_of_runN Tryz.tmOk Tryz.tmMixed Tryz.ftOkF (l := []) .nil Tryz.rF80

def Tryz.eF81 : Ent := ⟨91, [.ptr 7633 0],
 [(7339, .arr 9 1 true [.str [1, 0, 1, 0, 0, 0, 0]]),
  (7338, .arr 3 1 true [.int .i64 0]),
  (7337, .arr 3 1 true [.int .i64 0]),
  (7343, .arr 61 15 false [.agg [.int .i64 0, .int .i64 0, .ref 7337 1 0 1 none, .ref 7338 1 0 1 none, .ref 7339 1 0 1 none, .imm 5 [] 9, .int .u8 0, .int .i64 0, .imm 0 [] 0, .str [], .str [], .imm 0 [] 0, .imm 0 [] 0, .imm 1 [] 9, .int .i64 0]]),
  (7331, .arr 3 1 true [.int .i64 0]),
  (7330, .arr 3 1 true [.int .i64 0]),
  (7333, .arr 56 2 false [.agg [.ref 7330 1 0 1 none, .ref 7331 1 0 1 none]]),
  (7633, .box [.int .i64 0, .ref 7333 2 0 1 none, .ref 7343 15 0 1 none, .imm 0 [] 0, .imm 0 [] 0, .imm 0 [] 0])], 7666,
 { d := .mref 7666, vc := true, eff := [(7666, some (.map []))], nw := (7666, 7731), met := [7339, 7338, 7337, 7343, 7331, 7330, 7333, 7633] }⟩
theorem Tryz.rF81 : runFQ (getLQ Tryz.ftLF) Tryz.ptF Tryz.tm 2000 (callN (callKQ [] noCall) (getLQ Tryz.ftLF) Tryz.ptF Tryz.tm 2000 60) Tryz.eF81.K Tryz.eF81.args Tryz.eF81.heap Tryz.eF81.nx = some Tryz.eF81.out := by kernel_rfl
theorem Tryz.kF81 : EntOk Tryz.prog Tryz.eF81 := entOk_of_runN Tryz.tmOk Tryz.tmMixed Tryz.ftOkF (l := []) .nil Tryz.rF81

def Tryz.eF82 : Ent := ⟨56, [.agg [.ref 7351 2 0 1 none, .ref 7388 8 0 1 none, .imm 10 [] 0]],
 [(7324, .arr 5 1 true [.int .u8 4, .int .u8 1, .int .u8 0, .int .u8 1, .int .u8 8, .int .u8 12, .int .u8 2, .int .u8 0, .int .u8 1, .int .u8 8, .int .u8 7, .int .u8 1, .int .u8 0, .int .u8 1, .int .u8 0, .int .u8 0, .int .u8 0, .int .u8 0, .int .u8 11, .int .u8 3, .int .u8 0, .int .u8 1, .int .u8 7, .int .u8 1, .int .u8 0, .int .u8 1, .int .u8 0, .int .u8 0, .int .u8 0, .int .u8 0]),
  (7339, .arr 9 1 true [.str [1, 0, 1, 0, 0, 0, 0]]),
  (7338, .arr 3 1 true [.int .i64 0]),
  (7337, .arr 3 1 true [.int .i64 0]),
  (7343, .arr 61 15 false [.agg [.int .i64 0, .int .i64 0, .ref 7337 1 0 1 none, .ref 7338 1 0 1 none, .ref 7339 1 0 1 none, .imm 5 [] 9, .int .u8 0, .int .i64 0, .imm 0 [] 0, .str [], .str [], .imm 0 [] 0, .imm 0 [] 0, .imm 1 [] 9, .int .i64 0]]),
  (7331, .arr 3 1 true [.int .i64 0]),
  (7330, .arr 3 1 true [.int .i64 0]),
  (7333, .arr 56 2 false [.agg [.ref 7330 1 0 1 none, .ref 7331 1 0 1 none]]),
  (7388, .arr 132 8 false [.agg [.bool true, .int .i64 0, .ref 7333 2 0 1 none, .ref 7343 15 0 1 none, .imm 0 [] 0, .ref 7324 1 0 30 none, .imm 0 [] 0, .imm 0 [] 0]]),
  (7349, .arr 3 1 true [.int .i64 0]),
  (7348, .arr 3 1 true [.int .i64 0]),
  (7351, .arr 56 2 false [.agg [.ref 7348 1 0 1 none, .ref 7349 1 0 1 none]])], 7397,
 { d := .int .i64 0, vc := true, eff := [], nw := (7397, 7631), met := [7324, 7339, 7338, 7337, 7343, 7331, 7330, 7333, 7388, 7349, 7348, 7351] }⟩
theorem Tryz.rF82 : runFQ (getLQ Tryz.ftLF) Tryz.ptF Tryz.tm 2000 (callN (callKQ [Tryz.eF80, Tryz.eF79] noCall) (getLQ Tryz.ftLF) Tryz.ptF Tryz.tm 2000 60) Tryz.eF82.K Tryz.eF82.args Tryz.eF82.heap Tryz.eF82.nx = some Tryz.eF82.out := by kernel_rfl
theorem Tryz.kF82 : EntOk Tryz.prog Tryz.eF82 := entOk_of_runN Tryz.tmOk Tryz.tmMixed Tryz.ftOkF (l := [Tryz.eF80, Tryz.eF79]) (.cons Tryz.kF80 (.cons Tryz.kF79 .nil)) Tryz.rF82

def Tryz.eF83 : Ent := ⟨20, [],
 [], 5009,
 { d := .tuple [.agg [.ref 5409 2 0 1 none, .ref 5433 8 0 1 none, .imm 0 [] 0], .bool true], vc := true, eff := [(5388, some (.arr 9 1 true [.str [1, 0, 1, 0, 0, 0, 0]])),
  (5365, some (.arr 3 1 true [.int .i64 0])),
  (5364, some (.arr 3 1 true [.int .i64 0])),
  (5312, some (.arr 61 15 false [.agg [.int .i64 0, .int .i64 0, .ref 5364 1 0 1 none, .ref 5365 1 0 1 none, .imm 0 [] 0, .imm 0 [] 0, .int .u8 0, .int .i64 0, .imm 0 [] 0, .str [], .str [], .imm 0 [] 0, .imm 0 [] 0, .ref 5388 1 0 1 none, .int .i64 0]])),
  (5301, some (.arr 3 1 true [.int .i64 0])),
  (5300, some (.arr 3 1 true [.int .i64 0])),
  (5303, some (.arr 56 2 false [.agg [.ref 5300 1 0 1 none, .ref 5301 1 0 1 none]])),
  (5433, some (.arr 132 8 false [.agg [.bool true, .int .i64 0, .ref 5303 2 0 1 none, .ref 5312 15 0 1 none, .imm 0 [] 0, .imm 1 [] 0, .imm 0 [] 0, .imm 10 [] 0]])),
  (5407, some (.arr 3 1 true [.int .i64 0])),
  (5406, some (.arr 3 1 true [.int .i64 0])),
  (5409, some (.arr 56 2 false [.agg [.ref 5406 1 0 1 none, .ref 5407 1 0 1 none]]))], nw := (5009, 5435), met := [] }⟩
theorem Tryz.rF83 : runFQ (getLQ Tryz.ftLF) Tryz.ptF Tryz.tm 2000 (callN (callKQ [Tryz.eF61, Tryz.eF60] noCall) (getLQ Tryz.ftLF) Tryz.ptF Tryz.tm 2000 60) Tryz.eF83.K Tryz.eF83.args Tryz.eF83.heap Tryz.eF83.nx = some Tryz.eF83.out := by kernel_rfl
theorem Tryz.kF83 : EntOk Tryz.prog Tryz.eF83 := entOk_of_runN Tryz.tmOk Tryz.tmMixed Tryz.ftOkF (l := [Tryz.eF61, Tryz.eF60]) (.cons Tryz.kF61 (.cons Tryz.kF60 .nil)) Tryz.rF83

def Tryz.eF84 : Ent := ⟨18, [.agg [.ref 5409 2 0 1 none, .ref 5433 8 0 1 none, .imm 0 [] 0]],
 [(5388, .arr 9 1 true [.str [1, 0, 1, 0, 0, 0, 0]]),
  (5365, .arr 3 1 true [.int .i64 0]),
  (5364, .arr 3 1 true [.int .i64 0]),
  (5312, .arr 61 15 false [.agg [.int .i64 0, .int .i64 0, .ref 5364 1 0 1 none, .ref 5365 1 0 1 none, .imm 0 [] 0, .imm 0 [] 0, .int .u8 0, .int .i64 0, .imm 0 [] 0, .str [], .str [], .imm 0 [] 0, .imm 0 [] 0, .ref 5388 1 0 1 none, .int .i64 0]]),
  (5301, .arr 3 1 true [.int .i64 0]),
  (5300, .arr 3 1 true [.int .i64 0]),
  (5303, .arr 56 2 false [.agg [.ref 5300 1 0 1 none, .ref 5301 1 0 1 none]]),
  (5433, .arr 132 8 false [.agg [.bool true, .int .i64 0, .ref 5303 2 0 1 none, .ref 5312 15 0 1 none, .imm 0 [] 0, .imm 1 [] 0, .imm 0 [] 0, .imm 10 [] 0]]),
  (5407, .arr 3 1 true [.int .i64 0]),
  (5406, .arr 3 1 true [.int .i64 0]),
  (5409, .arr 56 2 false [.agg [.ref 5406 1 0 1 none, .ref 5407 1 0 1 none]])], 5436,
 { d := .tuple [.bool false, .int .i64 0], vc := true, eff := [], nw := (5436, 5559), met := [5388, 5365, 5364, 5312, 5301, 5300, 5303, 5433, 5407, 5406, 5409] }⟩
theorem Tryz.rF84 : runFQ (getLQ Tryz.ftLF) Tryz.ptF Tryz.tm 2000 (callN (callKQ [] noCall) (getLQ Tryz.ftLF) Tryz.ptF Tryz.tm 2000 60) Tryz.eF84.K Tryz.eF84.args Tryz.eF84.heap Tryz.eF84.nx = some Tryz.eF84.out := by kernel_rfl
theorem Tryz.kF84 : EntOk Tryz.prog Tryz.eF84 := entOk_of_runN Tryz.tmOk Tryz.tmMixed Tryz.ftOkF (l := []) .nil Tryz.rF84

def Tryz.eF85 : Ent := ⟨19, [.agg [.ref 5409 2 0 1 none, .ref 5433 8 0 1 none, .imm 0 [] 0]],
 [(5388, .arr 9 1 true [.str [1, 0, 1, 0, 0, 0, 0]]),
  (5365, .arr 3 1 true [.int .i64 0]),
  (5364, .arr 3 1 true [.int .i64 0]),
  (5312, .arr 61 15 false [.agg [.int .i64 0, .int .i64 0, .ref 5364 1 0 1 none, .ref 5365 1 0 1 none, .imm 0 [] 0, .imm 0 [] 0, .int .u8 0, .int .i64 0, .imm 0 [] 0, .str [], .str [], .imm 0 [] 0, .imm 0 [] 0, .ref 5388 1 0 1 none, .int .i64 0]]),
  (5301, .arr 3 1 true [.int .i64 0]),
  (5300, .arr 3 1 true [.int .i64 0]),
  (5303, .arr 56 2 false [.agg [.ref 5300 1 0 1 none, .ref 5301 1 0 1 none]]),
  (5433, .arr 132 8 false [.agg [.bool true, .int .i64 0, .ref 5303 2 0 1 none, .ref 5312 15 0 1 none, .imm 0 [] 0, .imm 1 [] 0, .imm 0 [] 0, .imm 10 [] 0]]),
  (5407, .arr 3 1 true [.int .i64 0]),
  (5406, .arr 3 1 true [.int .i64 0]),
  (5409, .arr 56 2 false [.agg [.ref 5406 1 0 1 none, .ref 5407 1 0 1 none]])], 5559,
 { d := .tuple [.int .i64 22, .int .i64 0], vc := true, eff := [], nw := (5559, 5678), met := [5388, 5365, 5364, 5312, 5301, 5300, 5303, 5433, 5407, 5406, 5409] }⟩
theorem Tryz.rF85 : runFQ (getLQ Tryz.ftLF) Tryz.ptF Tryz.tm 2000 (callN (callKQ [] noCall) (getLQ Tryz.ftLF) Tryz.ptF Tryz.tm 2000 60) Tryz.eF85.K Tryz.eF85.args Tryz.eF85.heap Tryz.eF85.nx = some Tryz.eF85.out := by kernel_rfl
theorem Tryz.kF85 : EntOk Tryz.prog Tryz.eF85 := entOk_of_runN Tryz.tmOk Tryz.tmMixed Tryz.ftOkF (l := []) .nil Tryz.rF85

def Tryz.eF86 : Ent := ⟨21, [.agg [.ref 5409 2 0 1 none, .ref 5433 8 0 1 none, .imm 0 [] 0], .agg [.int .u8 6, .int .i64 0, .int .i64 0, .int .i64 0, .int .i64 0, .int .i64 0, .int .u8 0, .int .i64 0, .imm 0 [] 0, .int .i64 0, .str [], .str [], .int .i64 0, .int .i64 0, .imm 0 [] 0, .int .i64 0, .int .i64 0, .int .i64 0]],
 [(5388, .arr 9 1 true [.str [1, 0, 1, 0, 0, 0, 0]]),
  (5365, .arr 3 1 true [.int .i64 0]),
  (5364, .arr 3 1 true [.int .i64 0]),
  (5312, .arr 61 15 false [.agg [.int .i64 0, .int .i64 0, .ref 5364 1 0 1 none, .ref 5365 1 0 1 none, .imm 0 [] 0, .imm 0 [] 0, .int .u8 0, .int .i64 0, .imm 0 [] 0, .str [], .str [], .imm 0 [] 0, .imm 0 [] 0, .ref 5388 1 0 1 none, .int .i64 0]]),
  (5301, .arr 3 1 true [.int .i64 0]),
  (5300, .arr 3 1 true [.int .i64 0]),
  (5303, .arr 56 2 false [.agg [.ref 5300 1 0 1 none, .ref 5301 1 0 1 none]]),
  (5433, .arr 132 8 false [.agg [.bool true, .int .i64 0, .ref 5303 2 0 1 none, .ref 5312 15 0 1 none, .imm 0 [] 0, .imm 1 [] 0, .imm 0 [] 0, .imm 10 [] 0]]),
  (5407, .arr 3 1 true [.int .i64 0]),
  (5406, .arr 3 1 true [.int .i64 0]),
  (5409, .arr 56 2 false [.agg [.ref 5406 1 0 1 none, .ref 5407 1 0 1 none]])], 5678,
 { d := .tuple [.agg [.ref 5898 2 0 1 none, .ref 5923 8 0 1 none, .imm 0 [] 0], .int .i64 0], vc := true, eff := [(5923, some (.arr 132 8 false [.agg [.bool false, .int .i64 0, .imm 0 [] 0, .imm 0 [] 0, .imm 0 [] 0, .imm 0 [] 0, .imm 0 [] 0, .imm 0 [] 0]])),
  (5896, some (.arr 3 1 true [.int .i64 0])),
  (5895, some (.arr 3 1 true [.int .i64 0])),
  (5898, some (.arr 56 2 false [.agg [.ref 5895 1 0 1 none, .ref 5896 1 0 1 none]]))], nw := (5678, 5924), met := [5388, 5365, 5364, 5312, 5301, 5300, 5303, 5433, 5407, 5406, 5409] }⟩
theorem Tryz.rF86 : runFQ (getLQ Tryz.ftLF) Tryz.ptF Tryz.tm 2000 (callN (callKQ [Tryz.eF62] noCall) (getLQ Tryz.ftLF) Tryz.ptF Tryz.tm 2000 60) Tryz.eF86.K Tryz.eF86.args Tryz.eF86.heap Tryz.eF86.nx = some Tryz.eF86.out := by kernel_rfl
theorem Tryz.kF86 : EntOk Tryz.prog Tryz.eF86 := entOk_of_runN Tryz.tmOk Tryz.tmMixed Tryz.ftOkF (l := [Tryz.eF62]) (.cons Tryz.kF62 .nil) Tryz.rF86

def Tryz.eF87 : Ent := ⟨18, [.agg [.ref 4763 2 0 1 none, .ref 4793 8 0 1 none, .imm 0 [] 0]],
 [(4784, .arr 3 1 true [.int .i64 0]),
  (4783, .arr 3 1 true [.int .i64 0]),
  (4789, .arr 61 15 false [.agg [.int .i64 0, .int .i64 0, .ref 4783 1 0 1 none, .ref 4784 1 0 1 none, .imm 0 [] 0, .imm 0 [] 0, .int .u8 0, .int .i64 0, .imm 0 [] 0, .str [], .str [], .imm 0 [] 0, .imm 0 [] 0, .imm 0 [] 0, .int .i64 0]]),
  (4774, .arr 3 1 true [.int .i64 0]),
  (4773, .arr 3 1 true [.int .i64 0]),
  (4776, .arr 56 2 false [.agg [.ref 4773 1 0 1 none, .ref 4774 1 0 1 none]]),
  (4793, .arr 132 8 false [.agg [.bool true, .int .i64 0, .ref 4776 2 0 1 none, .ref 4789 15 0 1 none, .imm 0 [] 0, .imm 0 [] 0, .imm 0 [] 0, .imm 0 [] 0]]),
  (4761, .arr 3 1 true [.int .i64 0]),
  (4760, .arr 3 1 true [.int .i64 0]),
  (4763, .arr 56 2 false [.agg [.ref 4760 1 0 1 none, .ref 4761 1 0 1 none]])], 4795,
 { d := .tuple [.bool true, .int .i64 0], vc := true, eff := [], nw := (4795, 4908), met := [4784, 4783, 4789, 4774, 4773, 4776, 4793, 4761, 4760, 4763] }⟩
theorem Tryz.rF87 : runFQ (getLQ Tryz.ftLF) Tryz.ptF Tryz.tm 2000 (callN (callKQ [] noCall) (getLQ Tryz.ftLF) Tryz.ptF Tryz.tm 2000 60) Tryz.eF87.K Tryz.eF87.args Tryz.eF87.heap Tryz.eF87.nx = some Tryz.eF87.out := by kernel_rfl
theorem Tryz.kF87 : EntOk Tryz.prog Tryz.eF87 := entOk_of_runN Tryz.tmOk Tryz.tmMixed Tryz.ftOkF (l := []) .nil Tryz.rF87

end Go.Proofs
end
section
/- Known calls of one closed run, each reckoned by itself; by program (genknow.py). -/

namespace Go.Proofs
open Go.Tm
set_option maxRecDepth 100000

def Tryz.eF88 : Ent := ⟨19, [.agg [.ref 4763 2 0 1 none, .ref 4793 8 0 1 none, .imm 0 [] 0]],
 [(4784, .arr 3 1 true [.int .i64 0]),
  (4783, .arr 3 1 true [.int .i64 0]),
  (4789, .arr 61 15 false [.agg [.int .i64 0, .int .i64 0, .ref 4783 1 0 1 none, .ref 4784 1 0 1 none, .imm 0 [] 0, .imm 0 [] 0, .int .u8 0, .int .i64 0, .imm 0 [] 0, .str [], .str [], .imm 0 [] 0, .imm 0 [] 0, .imm 0 [] 0, .int .i64 0]]),
  (4774, .arr 3 1 true [.int .i64 0]),
  (4773, .arr 3 1 true [.int .i64 0]),
  (4776, .arr 56 2 false [.agg [.ref 4773 1 0 1 none, .ref 4774 1 0 1 none]]),
  (4793, .arr 132 8 false [.agg [.bool true, .int .i64 0, .ref 4776 2 0 1 none, .ref 4789 15 0 1 none, .imm 0 [] 0, .imm 0 [] 0, .imm 0 [] 0, .imm 0 [] 0]]),
  (4761, .arr 3 1 true [.int .i64 0]),
  (4760, .arr 3 1 true [.int .i64 0]),
  (4763, .arr 56 2 false [.agg [.ref 4760 1 0 1 none, .ref 4761 1 0 1 none]])], 4908,
 { d := .tuple [.int .i64 10, .int .i64 0], vc := true, eff := [], nw := (4908, 5009), met := [4784, 4783, 4789, 4774, 4773, 4776, 4793, 4761, 4760, 4763] }⟩
theorem Tryz.rF88 : runFQ (getLQ Tryz.ftLF) Tryz.ptF Tryz.tm 2000 (callN (callKQ [] noCall) (getLQ Tryz.ftLF) Tryz.ptF Tryz.tm 2000 60) Tryz.eF88.K Tryz.eF88.args Tryz.eF88.heap Tryz.eF88.nx = some Tryz.eF88.out := by kernel_rfl
theorem Tryz.kF88 : EntOk Tryz.prog Tryz.eF88 := entOk_of_runN Tryz.tmOk Tryz.tmMixed Tryz.ftOkF (l := []) .nil Tryz.rF88

def Tryz.eF89 : Ent := ⟨16, [],
 [], 0,
 { d := .bool true, vc := true, eff := [], nw := (0, 4726), met := [] }⟩
theorem Tryz.rF89 : runFQ (getLQ Tryz.ftLF) Tryz.ptF Tryz.tm 2000 (callN (callKQ [Tryz.eF58, Tryz.eF59, Tryz.eF47, Tryz.eF48, Tryz.eF49, Tryz.eF50, Tryz.eF16, Tryz.eF11, Tryz.eF14, Tryz.eF15] noCall) (getLQ Tryz.ftLF) Tryz.ptF Tryz.tm 2000 60) Tryz.eF89.K Tryz.eF89.args Tryz.eF89.heap Tryz.eF89.nx = some Tryz.eF89.out := by kernel_rfl
theorem Tryz.kF89 : EntOk Tryz.prog Tryz.eF89 := entOk_of_runN Tryz.tmOk Tryz.tmMixed Tryz.ftOkF (l := [Tryz.eF58, Tryz.eF59, Tryz.eF47, Tryz.eF48, Tryz.eF49, Tryz.eF50, Tryz.eF16, Tryz.eF11, Tryz.eF14, Tryz.eF15]) (.cons Tryz.kF58 (.cons Tryz.kF59 (.cons Tryz.kF47 (.cons Tryz.kF48 (.cons Tryz.kF49 (.cons Tryz.kF50 (.cons Tryz.kF16 (.cons Tryz.kF11 (.cons Tryz.kF14 (.cons Tryz.kF15 .nil)))))))))) Tryz.rF89

def Tryz.eF90 : Ent := ⟨24, [.agg [.ref 7351 2 0 1 none, .ref 7388 8 0 1 none, .imm 10 [] 0], .int .i64 0, .int .i64 0],
 [(7324, .arr 5 1 true [.int .u8 4, .int .u8 1, .int .u8 0, .int .u8 1, .int .u8 8, .int .u8 12, .int .u8 2, .int .u8 0, .int .u8 1, .int .u8 8, .int .u8 7, .int .u8 1, .int .u8 0, .int .u8 1, .int .u8 0, .int .u8 0, .int .u8 0, .int .u8 0, .int .u8 11, .int .u8 3, .int .u8 0, .int .u8 1, .int .u8 7, .int .u8 1, .int .u8 0, .int .u8 1, .int .u8 0, .int .u8 0, .int .u8 0, .int .u8 0]),
  (7339, .arr 9 1 true [.str [1, 0, 1, 0, 0, 0, 0]]),
  (7338, .arr 3 1 true [.int .i64 0]),
  (7337, .arr 3 1 true [.int .i64 0]),
  (7343, .arr 61 15 false [.agg [.int .i64 0, .int .i64 0, .ref 7337 1 0 1 none, .ref 7338 1 0 1 none, .ref 7339 1 0 1 none, .imm 5 [] 9, .int .u8 0, .int .i64 0, .imm 0 [] 0, .str [], .str [], .imm 0 [] 0, .imm 0 [] 0, .imm 1 [] 9, .int .i64 0]]),
  (7331, .arr 3 1 true [.int .i64 0]),
  (7330, .arr 3 1 true [.int .i64 0]),
  (7333, .arr 56 2 false [.agg [.ref 7330 1 0 1 none, .ref 7331 1 0 1 none]]),
  (7388, .arr 132 8 false [.agg [.bool true, .int .i64 0, .ref 7333 2 0 1 none, .ref 7343 15 0 1 none, .imm 0 [] 0, .ref 7324 1 0 30 none, .imm 0 [] 0, .imm 0 [] 0]]),
  (7349, .arr 3 1 true [.int .i64 0]),
  (7348, .arr 3 1 true [.int .i64 0]),
  (7351, .arr 56 2 false [.agg [.ref 7348 1 0 1 none, .ref 7349 1 0 1 none]])], 7396,
 { d := .tuple [.ref 7734 1 0 1 none, .int .i64 0], vc := true, eff := [(7734, some (.arr 9 1 true [.str [1, 0, 1, 0, 0, 0, 0]]))], nw := (7396, 7735), met := [7324, 7339, 7338, 7337, 7343, 7331, 7330, 7333, 7388, 7349, 7348, 7351] }⟩
theorem Tryz.rF90 : runFQ (getLQ Tryz.ftLF) Tryz.ptF Tryz.tm 2000 (callN (callKQ [Tryz.eF82, Tryz.eF81] noCall) (getLQ Tryz.ftLF) Tryz.ptF Tryz.tm 2000 60) Tryz.eF90.K Tryz.eF90.args Tryz.eF90.heap Tryz.eF90.nx = some Tryz.eF90.out := by kernel_rfl
theorem Tryz.kF90 : EntOk Tryz.prog Tryz.eF90 := entOk_of_runN Tryz.tmOk Tryz.tmMixed Tryz.ftOkF (l := [Tryz.eF82, Tryz.eF81]) (.cons Tryz.kF82 (.cons Tryz.kF81 .nil)) Tryz.rF90

def Tryz.eF91 : Ent := ⟨23, [.agg [.ref 5409 2 0 1 none, .ref 5433 8 0 1 none, .imm 0 [] 0]],
 [(5388, .arr 9 1 true [.str [1, 0, 1, 0, 0, 0, 0]]),
  (5365, .arr 3 1 true [.int .i64 0]),
  (5364, .arr 3 1 true [.int .i64 0]),
  (5312, .arr 61 15 false [.agg [.int .i64 0, .int .i64 0, .ref 5364 1 0 1 none, .ref 5365 1 0 1 none, .imm 0 [] 0, .imm 0 [] 0, .int .u8 0, .int .i64 0, .imm 0 [] 0, .str [], .str [], .imm 0 [] 0, .imm 0 [] 0, .ref 5388 1 0 1 none, .int .i64 0]]),
  (5301, .arr 3 1 true [.int .i64 0]),
  (5300, .arr 3 1 true [.int .i64 0]),
  (5303, .arr 56 2 false [.agg [.ref 5300 1 0 1 none, .ref 5301 1 0 1 none]]),
  (5433, .arr 132 8 false [.agg [.bool true, .int .i64 0, .ref 5303 2 0 1 none, .ref 5312 15 0 1 none, .imm 0 [] 0, .imm 1 [] 0, .imm 0 [] 0, .imm 10 [] 0]]),
  (5407, .arr 3 1 true [.int .i64 0]),
  (5406, .arr 3 1 true [.int .i64 0]),
  (5409, .arr 56 2 false [.agg [.ref 5406 1 0 1 none, .ref 5407 1 0 1 none]])], 5971,
 { d := .tuple [.agg [.ref 7351 2 0 1 none, .ref 7388 8 0 1 none, .imm 10 [] 0], .int .i64 2, .int .i64 0], vc := true, eff := [(7324, some (.arr 5 1 true [.int .u8 4, .int .u8 1, .int .u8 0, .int .u8 1, .int .u8 8, .int .u8 12, .int .u8 2, .int .u8 0, .int .u8 1, .int .u8 8, .int .u8 7, .int .u8 1, .int .u8 0, .int .u8 1, .int .u8 0, .int .u8 0, .int .u8 0, .int .u8 0, .int .u8 11, .int .u8 3, .int .u8 0, .int .u8 1, .int .u8 7, .int .u8 1, .int .u8 0, .int .u8 1, .int .u8 0, .int .u8 0, .int .u8 0, .int .u8 0])),
  (7339, some (.arr 9 1 true [.str [1, 0, 1, 0, 0, 0, 0]])),
  (7338, some (.arr 3 1 true [.int .i64 0])),
  (7337, some (.arr 3 1 true [.int .i64 0])),
  (7343, some (.arr 61 15 false [.agg [.int .i64 0, .int .i64 0, .ref 7337 1 0 1 none, .ref 7338 1 0 1 none, .ref 7339 1 0 1 none, .imm 5 [] 9, .int .u8 0, .int .i64 0, .imm 0 [] 0, .str [], .str [], .imm 0 [] 0, .imm 0 [] 0, .imm 1 [] 9, .int .i64 0]])),
  (7331, some (.arr 3 1 true [.int .i64 0])),
  (7330, some (.arr 3 1 true [.int .i64 0])),
  (7333, some (.arr 56 2 false [.agg [.ref 7330 1 0 1 none, .ref 7331 1 0 1 none]])),
  (7388, some (.arr 132 8 false [.agg [.bool true, .int .i64 0, .ref 7333 2 0 1 none, .ref 7343 15 0 1 none, .imm 0 [] 0, .ref 7324 1 0 30 none, .imm 0 [] 0, .imm 0 [] 0]])),
  (7349, some (.arr 3 1 true [.int .i64 0])),
  (7348, some (.arr 3 1 true [.int .i64 0])),
  (7351, some (.arr 56 2 false [.agg [.ref 7348 1 0 1 none, .ref 7349 1 0 1 none]]))], nw := (5971, 7395), met := [5388, 5365, 5364, 5312, 5301, 5300, 5303, 5433, 5407, 5406, 5409] }⟩
theorem Tryz.rF91 : runFQ (getLQ Tryz.ftLF) Tryz.ptF Tryz.tm 2000 (callN (callKQ [Tryz.eF78, Tryz.eF77, Tryz.eF72, Tryz.eF75, Tryz.eF76] noCall) (getLQ Tryz.ftLF) Tryz.ptF Tryz.tm 2000 60) Tryz.eF91.K Tryz.eF91.args Tryz.eF91.heap Tryz.eF91.nx = some Tryz.eF91.out := by kernel_rfl
theorem Tryz.kF91 : EntOk Tryz.prog Tryz.eF91 := entOk_of_runN Tryz.tmOk Tryz.tmMixed Tryz.ftOkF (l := [Tryz.eF78, Tryz.eF77, Tryz.eF72, Tryz.eF75, Tryz.eF76]) (.cons Tryz.kF78 (.cons Tryz.kF77 (.cons Tryz.kF72 (.cons Tryz.kF75 (.cons Tryz.kF76 .nil))))) Tryz.rF91

theorem Tryz.rFtop : saysTrue (runFQ (getLQ Tryz.ftLF) Tryz.ptF Tryz.tm 2000 (callN (callKQ [Tryz.eF83, Tryz.eF84, Tryz.eF85, Tryz.eF86, Tryz.eF87, Tryz.eF88, Tryz.eF89, Tryz.eF90, Tryz.eF91] noCall) (getLQ Tryz.ftLF) Tryz.ptF Tryz.tm 2000 60) 4 [] [] 0) = true := by kernel_rfl
theorem Tryz.namesF : CallP Tryz.prog 4 [] (.bool true) := callP_knownN Tryz.tmOk Tryz.tmMixed Tryz.ftOkF (l := [Tryz.eF83, Tryz.eF84, Tryz.eF85, Tryz.eF86, Tryz.eF87, Tryz.eF88, Tryz.eF89, Tryz.eF90, Tryz.eF91]) (.cons Tryz.kF83 (.cons Tryz.kF84 (.cons Tryz.kF85 (.cons Tryz.kF86 (.cons Tryz.kF87 (.cons Tryz.kF88 (.cons Tryz.kF89 (.cons Tryz.kF90 (.cons Tryz.kF91 .nil))))))))) Tryz.rFtop

end Go.Proofs
end
section
/- Rules by which functions' codes are walked through by scripts: regions, calls, loops. -/


namespace Go.Tm
open Go.RowKit Go.WideShapes

/-- what a run comes to, said so that simp may reckon it -/
def Comes (r : Option (St × Bool × List FP × List Oper)) (st' : St) (vc : Bool) (acc : List FP) (l : List Oper) : Prop :=
  ∀ q : St → Bool → List FP → List Oper → Prop, q st' vc acc l → match r with | some (s, v, f, l) => q s v f l | none => False

theorem Comes.eq {r : Option (St × Bool × List FP × List Oper)} {st' : St} {vc : Bool} {acc : List FP} {l : List Oper} (h : Comes r st' vc acc l) : r = some (st', vc, acc, l) := by
  have := h (fun s v f k => (s, v, f, k) = (st', vc, acc, l)) rfl
  cases r with
  | none => exact this.elim
  | some x => exact congrArg some this

section
variable {P : Program} {tab : Nat → TI} {lim n : Nat}

theorem Ok.plain {id : Nat} {ops : Array Oper} {st st' : St} {vc : Bool} {acc : List FP} {Q : Exit → St → Prop} (hT : TabOk P tab) (hm : P.follows .mixedOrders = true) (V : List Nat) (hok : regOk n ops false = true)
    (h : Comes (runE tab true false ops.toList ops.toList ⟨keep V st.vars, st.heap, st.nx⟩ true []) st' vc acc []) (hv : vc = true) (hlim : st'.nx ≤ lim) (hQ : Q .normal st') : Ok P lim n (.region id ops false) st Q :=
  Ok.region (own := true) hT hm V hok (WRun.E h.eq (.inr fun _ _ _ h => ⟨nofun, h.2⟩) hv hlim (.nil ⟨nofun, hQ⟩)).2

theorem Ok.drawn {id : Nat} {ops : Array Oper} {st st' : St} {vc : Bool} {acc : List FP} {Q : Exit → St → Prop} (hT : TabOk P tab) (hm : P.follows .mixedOrders = true) (V : List Nat) (hok : regOk n ops true = true)
    (h : Comes (runE tab true true ops.toList ops.toList ⟨keep V st.vars, st.heap, st.nx⟩ true []) st' vc acc []) (hs : schedB ops (fun i => (acc[i]?).getD fpDflt) = true) (hv : vc = true) (hlim : st'.nx ≤ lim) (hQ : Q .normal st') : Ok P lim n (.region id ops true) st Q :=
  Ok.region (own := true) hT hm V hok (WRun.E h.eq (.inl rfl) hv hlim (.nil ⟨fun _ => hs, hQ⟩)).2

/-- The rule: operations up to the next call. -/
theorem WRun.R {ops : Array Oper} {dr : Bool} {l l' : List Oper} {st st' : St} {acc acc' : List FP} {Q : St → List FP → Prop} {vc : Bool}
    (hdr : dr = true ∨ ∀ st a b, Q st a → Q st b) (h : Comes (runE tab true dr ops.toList l st true acc) st' vc acc' l') (hv : vc = true) (hlim : st'.nx ≤ lim) (hQ : WRun P tab true lim ops l' st' acc' Q) : WRun P tab true lim ops l st acc Q :=
  (WRun.E h.eq hdr hv hlim hQ).2

theorem pureNw {st : St} : ∀ id, ((0 : Nat), (0 : Nat)).1 ≤ id → id < ((0 : Nat), (0 : Nat)).2 → st.nx ≤ id := fun _ _ h => absurd h (Nat.not_lt_zero _)

/-- The rule: a call of a function that turns nothing. -/
theorem WRun.call {ops : Array Oper} {o : Oper} {l : List Oper} {st : St} {acc : List FP} {Q : St → List FP → Prop} {c : Call} {f : Operand} {K : FuncId} {caps ds args : List D} {r : D}
    (ho : o.op = .call c) (hc : c.callee = .value f) (hg : o.guard = none) (hf : opd true (getR st.vars) f = (.fn (.func K) caps, true)) (hds : opds true (getR st.vars) c.args.toList = (ds, true)) (hl : lends (getL st.heap) (ds ++ caps) = (args, true))
    (hK : CallP P K args r) (hQ : WRun P tab true lim ops l (st.app o.dst { d := r, vc := true }) (acc ++ [fpOf o (st.fs lim) { d := r, vc := true }]) Q) : WRun P tab true lim ops (o :: l) st acc Q := by
  obtain ⟨os, st', hch, hq⟩ := hQ
  refine ⟨_, st', .cons (out := { d := r, vc := true }) ?_ pureNw hch, by simpa using hq⟩
  unfold Fires
  simp only [hg]
  unfold Core
  simp only [ho, hc]
  have hl' : lends (st.fs lim).hp (ds ++ caps) = (args, true) := hl
  exact ⟨K, caps, true, ds, true, r, hf, rfl, hds, rfl, .inl ⟨by rw [hl'], by rw [hl']; exact hK, rfl⟩⟩

/-- The rule: a call over own memory. -/
theorem WRun.hcall {ops : Array Oper} {o : Oper} {l : List Oper} {st : St} {acc : List FP} {Q : St → List FP → Prop} {c : Call} {f : Operand} {K : FuncId} {caps ds : List D} {H : List (Nat × Blk)} {r : D} {eff : List (Nat × Option Blk)} {nw : Nat × Nat}
    (ho : o.op = .call c) (hc : c.callee = .value f) (hg : o.guard = none) (hf : opd true (getR st.vars) f = (.fn (.func K) caps, true)) (hds : opds true (getR st.vars) c.args.toList = (ds, true))
    (hK : CallH P K (ds ++ caps) H r eff nw) (hH : ∀ id b, getL H id = some b → getL st.heap id = some b) (hE : ∀ x ∈ eff, x.1 ∈ H.map (·.1) ∨ nw.1 ≤ x.1 ∧ x.1 < nw.2) (hn : nw.1 = nw.2 ∨ st.nx ≤ nw.1 ∧ nw.2 ≤ lim)
    (hQ : WRun P tab true lim ops l (st.app o.dst { d := r, vc := true, eff := eff, nw := nw, met := H.map (·.1) }) (acc ++ [fpOf o (st.fs lim) { d := r, vc := true, eff := eff, nw := nw, met := H.map (·.1) }]) Q) : WRun P tab true lim ops (o :: l) st acc Q := by
  obtain ⟨os, st', hch, hq⟩ := hQ
  have hnn : ∀ id, nw.1 ≤ id → id < nw.2 → st.nx ≤ id ∧ id < lim := by
    intro id h1 h2
    rcases hn with h | ⟨h3, h4⟩ <;> omega
  refine ⟨_, st', .cons (out := { d := r, vc := true, eff := eff, nw := nw, met := H.map (·.1) }) ?_ (fun id h1 h2 => (hnn id h1 h2).1) hch, by simpa using hq⟩
  unfold Fires
  simp only [hg]
  unfold Core
  simp only [ho, hc]
  refine ⟨K, caps, true, ds, true, r, hf, rfl, hds, rfl, .inr (.inl ⟨H, eff, nw, hK, hH, fun id h1 h2 => ?_, hE, rfl⟩)⟩
  have := hnn id h1 h2
  simp only [St.fs, Bool.and_eq_true, decide_eq_true_eq]
  exact this

end

/-- what a function hands back, said so that simp may reckon it -/
def ResIs (tab : Nat → TI) (st : St) (l : List ResultVar) (r : D) : Prop := match resL tab st l with | some (ds, p) => p = true ∧ resT ds = r | none => False

theorem ResIs.to {tab : Nat → TI} {st : St} {l : List ResultVar} {r : D} (h : ResIs tab st l r) : ∃ ds, resL tab st l = some (ds, true) ∧ resT ds = r := by
  unfold ResIs at h
  split at h
  · rename_i ds p he; obtain ⟨rfl, h2⟩ := h; exact ⟨ds, he, h2⟩
  · exact h.elim

theorem OkL.sub {P : Program} {lim n : Nat} {c : Code} {st st' : St} {Q : Exit → St → Prop} (hs : Sub st' st) (h : OkL P lim n c st' Q) : OkL P lim n c st Q := by
  intro E F a w g hF hR
  obtain ⟨F', hF', hR'⟩ := hR.sub hF hs
  exact h E F' a w g hF' hR'

end Go.Tm
end
section
/- A law's row, off its contract: what is handed in, read. -/






namespace Go.Tm
open Go.RowKit Go.WideShapes Go.ChangeShapes

section
variable {H : Type} {enc : TypeId × Value → H} {P : Program} {w : World} {sp : Nat → Bool}

end

section
variable {P : Program} {n : Nat} {t : TypeId} {l : List D}
end
end Go.Tm
end

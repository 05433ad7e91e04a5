/- Texts of the proof. -/
import Derived.Test.YtbbinddkhlmlcaaDecreeLaterPj
import Derived.Test.YtbbinddkhlmlcaaDecreeLaterPg
import Derived.Test.YtbbinddkhlmlcaaDecreeLaterPh
import Derived.Test.YtbbinddkhlmlcaaDecreeLaterPi
section
namespace Go.Proofs
open Go.Tm
set_option maxRecDepth 100000
def Try.eKD0 : Ent := ⟨25, [.ptr 253 0, .agg [.int .i64 1, .int .i64 0, .int .u8 2, .int .i64 0, .int .i64 0, .int .i64 8, .int .i64 0, .str [], .int .i64 0, .int .i64 0]],
 [(231, .arr 47 10 true [.agg [.int .i64 0, .int .i64 2, .int .u8 1, .int .i64 0, .int .i64 0, .int .i64 8, .int .i64 0, .str [], .int .i64 0, .int .i64 0], .agg [.int .i64 0, .int .i64 0, .int .u8 0, .int .i64 0, .int .i64 0, .int .i64 0, .int .i64 0, .str [], .int .i64 0, .int .i64 0]]),
 (237, .arr 77 3 true [.agg [.int .i64 0, .int .i64 0, .str []]]),
 (236, .arr 3 1 true [.int .i64 0, .int .i64 1, .int .i64 2]),
 (232, .arr 45 7 false [.agg [.int .u8 1, .int .i64 8, .ref 236 1 0 3 none, .str [120], .str [], .ref 237 3 0 1 none, .imm 0 [] 0], .agg [.int .u8 0, .int .i64 0, .imm 0 [] 0, .str [], .str [], .imm 0 [] 0, .imm 0 [] 0], .agg [.int .u8 0, .int .i64 0, .imm 0 [] 0, .str [], .str [], .imm 0 [] 0, .imm 0 [] 0], .agg [.int .u8 0, .int .i64 0, .imm 0 [] 0, .str [], .str [], .imm 0 [] 0, .imm 0 [] 0], .agg [.int .u8 0, .int .i64 0, .imm 0 [] 0, .str [], .str [], .imm 0 [] 0, .imm 0 [] 0], .agg [.int .u8 0, .int .i64 0, .imm 0 [] 0, .str [], .str [], .imm 0 [] 0, .imm 0 [] 0]]),
 (230, .arr 52 3 true [.agg [.int .i64 8, .int .i64 0, .str []], .agg [.int .i64 8, .int .i64 0, .str []], .agg [.int .i64 0, .int .i64 0, .str []], .agg [.int .i64 0, .int .i64 0, .str []], .agg [.int .i64 0, .int .i64 0, .str []], .agg [.int .i64 0, .int .i64 0, .str []]]),
 (229, .arr 3 1 true [.int .i64 0, .int .i64 1, .int .i64 2]),
 (253, .box [.ref 229 1 0 3 none, .ref 230 3 0 6 none, .ref 232 7 0 6 none, .ref 231 10 0 1 none, .imm 0 [] 0])], 255,
 {d := .tuple [], vc := true, eff := [(232, some (.arr 45 7 false [.agg [.int .u8 2, .int .i64 8, .ref 319 1 0 3 none, .str [120], .str [120], .ref 320 3 0 2 none, .ref 324 1 0 1 none], .agg [.int .u8 0, .int .i64 0, .imm 0 [] 0, .str [], .str [], .imm 0 [] 0, .imm 0 [] 0], .agg [.int .u8 0, .int .i64 0, .imm 0 [] 0, .str [], .str [], .imm 0 [] 0, .imm 0 [] 0], .agg [.int .u8 0, .int .i64 0, .imm 0 [] 0, .str [], .str [], .imm 0 [] 0, .imm 0 [] 0], .agg [.int .u8 0, .int .i64 0, .imm 0 [] 0, .str [], .str [], .imm 0 [] 0, .imm 0 [] 0], .agg [.int .u8 0, .int .i64 0, .imm 0 [] 0, .str [], .str [], .imm 0 [] 0, .imm 0 [] 0]])),
 (253, some (.box [.ref 229 1 0 3 none, .ref 230 3 0 6 none, .ref 232 7 0 6 none, .ref 290 10 0 3 none, .imm 0 [] 0])),
 (231, none),
 (230, some (.arr 52 3 true [.agg [.int .i64 8, .int .i64 8, .str [120]], .agg [.int .i64 8, .int .i64 0, .str []], .agg [.int .i64 0, .int .i64 0, .str []], .agg [.int .i64 0, .int .i64 0, .str []], .agg [.int .i64 0, .int .i64 0, .str []], .agg [.int .i64 0, .int .i64 0, .str []]])),
 (290, some (.arr 47 10 true [.agg [.int .i64 0, .int .i64 2, .int .u8 1, .int .i64 0, .int .i64 0, .int .i64 8, .int .i64 0, .str [], .int .i64 0, .int .i64 0], .agg [.int .i64 0, .int .i64 1, .int .u8 3, .int .i64 0, .int .i64 0, .int .i64 8, .int .i64 0, .str [120], .int .i64 0, .int .i64 0], .agg [.int .i64 0, .int .i64 2, .int .u8 3, .int .i64 0, .int .i64 0, .int .i64 8, .int .i64 0, .str [120], .int .i64 0, .int .i64 0]])),
 (324, some (.arr 3 1 true [.int .i64 0])),
 (320, some (.arr 77 3 true [.agg [.int .i64 0, .int .i64 0, .str []], .agg [.int .i64 1, .int .i64 0, .str []]])),
 (319, some (.arr 3 1 true [.int .i64 0, .int .i64 1, .int .i64 2]))], nw := (255, 326), met := [231, 237, 236, 232, 230, 229, 253] }⟩
theorem Try.rKD0 : runFQ (getLQ Try.ftLKD) Try.ptKD Try.tm 2000 (callKQ [] (callXQ (getLQ Try.ftLKD) Try.ptKD Try.tm 2000 60)) Try.eKD0.K Try.eKD0.args Try.eKD0.heap Try.eKD0.nx = some Try.eKD0.out := by kernel_rfl
theorem Try.kKD0 : EntOk Try.prog Try.eKD0 := entOk_of_runQ Try.tmOk Try.tmMixed Try.ftOkKD (l := []) .nil Try.rKD0
def Try.eKD1 : Ent := ⟨9, [.agg [.ref 386 1 0 3 none, .ref 387 3 0 6 none, .ref 389 7 0 6 none, .ref 388 10 0 3 none, .imm 0 [] 0]],
 [(388, .arr 47 10 true [.agg [.int .i64 0, .int .i64 2, .int .u8 1, .int .i64 0, .int .i64 0, .int .i64 8, .int .i64 0, .str [], .int .i64 0, .int .i64 0], .agg [.int .i64 0, .int .i64 2, .int .u8 3, .int .i64 0, .int .i64 0, .int .i64 8, .int .i64 0, .str [120], .int .i64 0, .int .i64 0], .agg [.int .i64 1, .int .i64 0, .int .u8 4, .int .i64 0, .int .i64 0, .int .i64 8, .int .i64 0, .str [], .int .i64 0, .int .i64 0]]),
 (395, .arr 3 1 true [.int .i64 0]),
 (394, .arr 77 3 true [.agg [.int .i64 0, .int .i64 0, .str []], .agg [.int .i64 1, .int .i64 0, .str []]]),
 (393, .arr 3 1 true [.int .i64 0, .int .i64 1, .int .i64 2]),
 (389, .arr 45 7 false [.agg [.int .u8 2, .int .i64 8, .ref 393 1 0 3 none, .str [120], .str [120], .ref 394 3 0 2 none, .ref 395 1 0 1 none], .agg [.int .u8 0, .int .i64 0, .imm 0 [] 0, .str [], .str [], .imm 0 [] 0, .imm 0 [] 0], .agg [.int .u8 0, .int .i64 0, .imm 0 [] 0, .str [], .str [], .imm 0 [] 0, .imm 0 [] 0], .agg [.int .u8 0, .int .i64 0, .imm 0 [] 0, .str [], .str [], .imm 0 [] 0, .imm 0 [] 0], .agg [.int .u8 0, .int .i64 0, .imm 0 [] 0, .str [], .str [], .imm 0 [] 0, .imm 0 [] 0], .agg [.int .u8 0, .int .i64 0, .imm 0 [] 0, .str [], .str [], .imm 0 [] 0, .imm 0 [] 0]]),
 (387, .arr 52 3 true [.agg [.int .i64 8, .int .i64 8, .str [120]], .agg [.int .i64 8, .int .i64 8, .str [120]], .agg [.int .i64 0, .int .i64 0, .str []], .agg [.int .i64 0, .int .i64 0, .str []], .agg [.int .i64 0, .int .i64 0, .str []], .agg [.int .i64 0, .int .i64 0, .str []]]),
 (386, .arr 3 1 true [.int .i64 0, .int .i64 1, .int .i64 2])], 426,
 {d := .int .i64 0, vc := true, eff := [], nw := (426, 479), met := [388, 395, 394, 393, 389, 387, 386] }⟩
theorem Try.rKD1 : runFQ (getLQ Try.ftLKD) Try.ptKD Try.tm 2000 (callKQ [] (callXQ (getLQ Try.ftLKD) Try.ptKD Try.tm 2000 60)) Try.eKD1.K Try.eKD1.args Try.eKD1.heap Try.eKD1.nx = some Try.eKD1.out := by kernel_rfl
theorem Try.kKD1 : EntOk Try.prog Try.eKD1 := entOk_of_runQ Try.tmOk Try.tmMixed Try.ftOkKD (l := []) .nil Try.rKD1
def Try.eKD2 : Ent := ⟨10, [.agg [.ref 229 1 0 3 none, .ref 230 3 0 6 none, .ref 232 7 0 6 none, .ref 290 10 0 3 none, .imm 0 [] 0], .agg [.int .u8 2, .int .i64 0, .int .i64 1, .str []]],
 [(290, .arr 47 10 true [.agg [.int .i64 0, .int .i64 2, .int .u8 1, .int .i64 0, .int .i64 0, .int .i64 8, .int .i64 0, .str [], .int .i64 0, .int .i64 0], .agg [.int .i64 0, .int .i64 1, .int .u8 3, .int .i64 0, .int .i64 0, .int .i64 8, .int .i64 0, .str [120], .int .i64 0, .int .i64 0], .agg [.int .i64 0, .int .i64 2, .int .u8 3, .int .i64 0, .int .i64 0, .int .i64 8, .int .i64 0, .str [120], .int .i64 0, .int .i64 0]]),
 (324, .arr 3 1 true [.int .i64 0]),
 (320, .arr 77 3 true [.agg [.int .i64 0, .int .i64 0, .str []], .agg [.int .i64 1, .int .i64 0, .str []]]),
 (319, .arr 3 1 true [.int .i64 0, .int .i64 1, .int .i64 2]),
 (232, .arr 45 7 false [.agg [.int .u8 2, .int .i64 8, .ref 319 1 0 3 none, .str [120], .str [120], .ref 320 3 0 2 none, .ref 324 1 0 1 none], .agg [.int .u8 0, .int .i64 0, .imm 0 [] 0, .str [], .str [], .imm 0 [] 0, .imm 0 [] 0], .agg [.int .u8 0, .int .i64 0, .imm 0 [] 0, .str [], .str [], .imm 0 [] 0, .imm 0 [] 0], .agg [.int .u8 0, .int .i64 0, .imm 0 [] 0, .str [], .str [], .imm 0 [] 0, .imm 0 [] 0], .agg [.int .u8 0, .int .i64 0, .imm 0 [] 0, .str [], .str [], .imm 0 [] 0, .imm 0 [] 0], .agg [.int .u8 0, .int .i64 0, .imm 0 [] 0, .str [], .str [], .imm 0 [] 0, .imm 0 [] 0]]),
 (230, .arr 52 3 true [.agg [.int .i64 8, .int .i64 8, .str [120]], .agg [.int .i64 8, .int .i64 0, .str []], .agg [.int .i64 0, .int .i64 0, .str []], .agg [.int .i64 0, .int .i64 0, .str []], .agg [.int .i64 0, .int .i64 0, .str []], .agg [.int .i64 0, .int .i64 0, .str []]]),
 (229, .arr 3 1 true [.int .i64 0, .int .i64 1, .int .i64 2])], 328,
 {d := .tuple [.agg [.ref 386 1 0 3 none, .ref 387 3 0 6 none, .ref 389 7 0 6 none, .ref 388 10 0 3 none, .imm 0 [] 0], .int .i64 0], vc := true, eff := [(388, some (.arr 47 10 true [.agg [.int .i64 0, .int .i64 2, .int .u8 1, .int .i64 0, .int .i64 0, .int .i64 8, .int .i64 0, .str [], .int .i64 0, .int .i64 0], .agg [.int .i64 0, .int .i64 2, .int .u8 3, .int .i64 0, .int .i64 0, .int .i64 8, .int .i64 0, .str [120], .int .i64 0, .int .i64 0], .agg [.int .i64 1, .int .i64 0, .int .u8 4, .int .i64 0, .int .i64 0, .int .i64 8, .int .i64 0, .str [], .int .i64 0, .int .i64 0]])),
 (395, some (.arr 3 1 true [.int .i64 0])),
 (394, some (.arr 77 3 true [.agg [.int .i64 0, .int .i64 0, .str []], .agg [.int .i64 1, .int .i64 0, .str []]])),
 (393, some (.arr 3 1 true [.int .i64 0, .int .i64 1, .int .i64 2])),
 (389, some (.arr 45 7 false [.agg [.int .u8 2, .int .i64 8, .ref 393 1 0 3 none, .str [120], .str [120], .ref 394 3 0 2 none, .ref 395 1 0 1 none], .agg [.int .u8 0, .int .i64 0, .imm 0 [] 0, .str [], .str [], .imm 0 [] 0, .imm 0 [] 0], .agg [.int .u8 0, .int .i64 0, .imm 0 [] 0, .str [], .str [], .imm 0 [] 0, .imm 0 [] 0], .agg [.int .u8 0, .int .i64 0, .imm 0 [] 0, .str [], .str [], .imm 0 [] 0, .imm 0 [] 0], .agg [.int .u8 0, .int .i64 0, .imm 0 [] 0, .str [], .str [], .imm 0 [] 0, .imm 0 [] 0], .agg [.int .u8 0, .int .i64 0, .imm 0 [] 0, .str [], .str [], .imm 0 [] 0, .imm 0 [] 0]])),
 (387, some (.arr 52 3 true [.agg [.int .i64 8, .int .i64 8, .str [120]], .agg [.int .i64 8, .int .i64 8, .str [120]], .agg [.int .i64 0, .int .i64 0, .str []], .agg [.int .i64 0, .int .i64 0, .str []], .agg [.int .i64 0, .int .i64 0, .str []], .agg [.int .i64 0, .int .i64 0, .str []]])),
 (386, some (.arr 3 1 true [.int .i64 0, .int .i64 1, .int .i64 2]))], nw := (328, 421), met := [290, 324, 320, 319, 232, 230, 229] }⟩
theorem Try.rKD2 : runFQ (getLQ Try.ftLKD) Try.ptKD Try.tm 2000 (callKQ [] (callXQ (getLQ Try.ftLKD) Try.ptKD Try.tm 2000 60)) Try.eKD2.K Try.eKD2.args Try.eKD2.heap Try.eKD2.nx = some Try.eKD2.out := by kernel_rfl
theorem Try.kKD2 : EntOk Try.prog Try.eKD2 := entOk_of_runQ Try.tmOk Try.tmMixed Try.ftOkKD (l := []) .nil Try.rKD2
def Try.eKD3 : Ent := ⟨10, [.agg [.ref 9 1 0 3 none, .ref 10 3 0 6 (some 6), .ref 11 7 0 6 (some 6), .imm 0 [] 0, .imm 0 [] 0], .agg [.int .u8 1, .int .i64 0, .int .i64 0, .str [120]]],
 [(11, .arr 45 7 true [.agg [.int .u8 0, .int .i64 0, .imm 0 [] 0, .str [], .str [], .imm 0 [] 0, .imm 0 [] 0], .agg [.int .u8 0, .int .i64 0, .imm 0 [] 0, .str [], .str [], .imm 0 [] 0, .imm 0 [] 0], .agg [.int .u8 0, .int .i64 0, .imm 0 [] 0, .str [], .str [], .imm 0 [] 0, .imm 0 [] 0], .agg [.int .u8 0, .int .i64 0, .imm 0 [] 0, .str [], .str [], .imm 0 [] 0, .imm 0 [] 0], .agg [.int .u8 0, .int .i64 0, .imm 0 [] 0, .str [], .str [], .imm 0 [] 0, .imm 0 [] 0], .agg [.int .u8 0, .int .i64 0, .imm 0 [] 0, .str [], .str [], .imm 0 [] 0, .imm 0 [] 0]]),
 (10, .arr 52 3 true [.agg [.int .i64 0, .int .i64 0, .str []], .agg [.int .i64 0, .int .i64 0, .str []], .agg [.int .i64 0, .int .i64 0, .str []], .agg [.int .i64 0, .int .i64 0, .str []], .agg [.int .i64 0, .int .i64 0, .str []], .agg [.int .i64 0, .int .i64 0, .str []]]),
 (9, .arr 3 1 true [.int .i64 0, .int .i64 1, .int .i64 2])], 14,
 {d := .tuple [.agg [.ref 50 1 0 3 none, .ref 51 3 0 6 none, .ref 52 7 0 6 none, .ref 83 10 0 2 none, .imm 0 [] 0], .int .i64 0], vc := true, eff := [(83, some (.arr 47 10 true [.agg [.int .i64 0, .int .i64 1, .int .u8 1, .int .i64 0, .int .i64 0, .int .i64 8, .int .i64 0, .str [], .int .i64 0, .int .i64 0], .agg [.int .i64 0, .int .i64 2, .int .u8 1, .int .i64 0, .int .i64 0, .int .i64 8, .int .i64 0, .str [], .int .i64 0, .int .i64 0]])),
 (94, some (.arr 77 3 true [.agg [.int .i64 0, .int .i64 0, .str []]])),
 (92, some (.arr 3 1 true [.int .i64 0, .int .i64 1, .int .i64 2])),
 (52, some (.arr 45 7 false [.agg [.int .u8 1, .int .i64 8, .ref 92 1 0 3 none, .str [120], .str [], .ref 94 3 0 1 none, .imm 0 [] 0], .agg [.int .u8 0, .int .i64 0, .imm 0 [] 0, .str [], .str [], .imm 0 [] 0, .imm 0 [] 0], .agg [.int .u8 0, .int .i64 0, .imm 0 [] 0, .str [], .str [], .imm 0 [] 0, .imm 0 [] 0], .agg [.int .u8 0, .int .i64 0, .imm 0 [] 0, .str [], .str [], .imm 0 [] 0, .imm 0 [] 0], .agg [.int .u8 0, .int .i64 0, .imm 0 [] 0, .str [], .str [], .imm 0 [] 0, .imm 0 [] 0], .agg [.int .u8 0, .int .i64 0, .imm 0 [] 0, .str [], .str [], .imm 0 [] 0, .imm 0 [] 0]])),
 (51, some (.arr 52 3 true [.agg [.int .i64 8, .int .i64 0, .str []], .agg [.int .i64 0, .int .i64 0, .str []], .agg [.int .i64 0, .int .i64 0, .str []], .agg [.int .i64 0, .int .i64 0, .str []], .agg [.int .i64 0, .int .i64 0, .str []], .agg [.int .i64 0, .int .i64 0, .str []]])),
 (50, some (.arr 3 1 true [.int .i64 0, .int .i64 1, .int .i64 2]))], nw := (14, 99), met := [11, 10, 9] }⟩
theorem Try.rKD3 : runFQ (getLQ Try.ftLKD) Try.ptKD Try.tm 2000 (callKQ [] (callXQ (getLQ Try.ftLKD) Try.ptKD Try.tm 2000 60)) Try.eKD3.K Try.eKD3.args Try.eKD3.heap Try.eKD3.nx = some Try.eKD3.out := by kernel_rfl
theorem Try.kKD3 : EntOk Try.prog Try.eKD3 := entOk_of_runQ Try.tmOk Try.tmMixed Try.ftOkKD (l := []) .nil Try.rKD3
def Try.eKD4 : Ent := ⟨10, [.agg [.ref 50 1 0 3 none, .ref 51 3 0 6 none, .ref 52 7 0 6 none, .ref 83 10 0 2 none, .imm 0 [] 0], .agg [.int .u8 2, .int .i64 0, .int .i64 0, .str []]],
 [(83, .arr 47 10 true [.agg [.int .i64 0, .int .i64 1, .int .u8 1, .int .i64 0, .int .i64 0, .int .i64 8, .int .i64 0, .str [], .int .i64 0, .int .i64 0], .agg [.int .i64 0, .int .i64 2, .int .u8 1, .int .i64 0, .int .i64 0, .int .i64 8, .int .i64 0, .str [], .int .i64 0, .int .i64 0]]),
 (94, .arr 77 3 true [.agg [.int .i64 0, .int .i64 0, .str []]]),
 (92, .arr 3 1 true [.int .i64 0, .int .i64 1, .int .i64 2]),
 (52, .arr 45 7 false [.agg [.int .u8 1, .int .i64 8, .ref 92 1 0 3 none, .str [120], .str [], .ref 94 3 0 1 none, .imm 0 [] 0], .agg [.int .u8 0, .int .i64 0, .imm 0 [] 0, .str [], .str [], .imm 0 [] 0, .imm 0 [] 0], .agg [.int .u8 0, .int .i64 0, .imm 0 [] 0, .str [], .str [], .imm 0 [] 0, .imm 0 [] 0], .agg [.int .u8 0, .int .i64 0, .imm 0 [] 0, .str [], .str [], .imm 0 [] 0, .imm 0 [] 0], .agg [.int .u8 0, .int .i64 0, .imm 0 [] 0, .str [], .str [], .imm 0 [] 0, .imm 0 [] 0], .agg [.int .u8 0, .int .i64 0, .imm 0 [] 0, .str [], .str [], .imm 0 [] 0, .imm 0 [] 0]]),
 (51, .arr 52 3 true [.agg [.int .i64 8, .int .i64 0, .str []], .agg [.int .i64 0, .int .i64 0, .str []], .agg [.int .i64 0, .int .i64 0, .str []], .agg [.int .i64 0, .int .i64 0, .str []], .agg [.int .i64 0, .int .i64 0, .str []], .agg [.int .i64 0, .int .i64 0, .str []]]),
 (50, .arr 3 1 true [.int .i64 0, .int .i64 1, .int .i64 2])], 101,
 {d := .tuple [.agg [.ref 147 1 0 3 none, .ref 148 3 0 6 none, .ref 150 7 0 6 none, .ref 149 10 0 2 none, .imm 0 [] 0], .int .i64 0], vc := true, eff := [(149, some (.arr 47 10 true [.agg [.int .i64 0, .int .i64 2, .int .u8 1, .int .i64 0, .int .i64 0, .int .i64 8, .int .i64 0, .str [], .int .i64 0, .int .i64 0], .agg [.int .i64 1, .int .i64 0, .int .u8 2, .int .i64 0, .int .i64 0, .int .i64 8, .int .i64 0, .str [], .int .i64 0, .int .i64 0]])),
 (155, some (.arr 77 3 true [.agg [.int .i64 0, .int .i64 0, .str []]])),
 (154, some (.arr 3 1 true [.int .i64 0, .int .i64 1, .int .i64 2])),
 (150, some (.arr 45 7 false [.agg [.int .u8 1, .int .i64 8, .ref 154 1 0 3 none, .str [120], .str [], .ref 155 3 0 1 none, .imm 0 [] 0], .agg [.int .u8 0, .int .i64 0, .imm 0 [] 0, .str [], .str [], .imm 0 [] 0, .imm 0 [] 0], .agg [.int .u8 0, .int .i64 0, .imm 0 [] 0, .str [], .str [], .imm 0 [] 0, .imm 0 [] 0], .agg [.int .u8 0, .int .i64 0, .imm 0 [] 0, .str [], .str [], .imm 0 [] 0, .imm 0 [] 0], .agg [.int .u8 0, .int .i64 0, .imm 0 [] 0, .str [], .str [], .imm 0 [] 0, .imm 0 [] 0], .agg [.int .u8 0, .int .i64 0, .imm 0 [] 0, .str [], .str [], .imm 0 [] 0, .imm 0 [] 0]])),
 (148, some (.arr 52 3 true [.agg [.int .i64 8, .int .i64 0, .str []], .agg [.int .i64 8, .int .i64 0, .str []], .agg [.int .i64 0, .int .i64 0, .str []], .agg [.int .i64 0, .int .i64 0, .str []], .agg [.int .i64 0, .int .i64 0, .str []], .agg [.int .i64 0, .int .i64 0, .str []]])),
 (147, some (.arr 3 1 true [.int .i64 0, .int .i64 1, .int .i64 2]))], nw := (101, 181), met := [83, 94, 92, 52, 51, 50] }⟩
theorem Try.rKD4 : runFQ (getLQ Try.ftLKD) Try.ptKD Try.tm 2000 (callKQ [] (callXQ (getLQ Try.ftLKD) Try.ptKD Try.tm 2000 60)) Try.eKD4.K Try.eKD4.args Try.eKD4.heap Try.eKD4.nx = some Try.eKD4.out := by kernel_rfl
theorem Try.kKD4 : EntOk Try.prog Try.eKD4 := entOk_of_runQ Try.tmOk Try.tmMixed Try.ftOkKD (l := []) .nil Try.rKD4
def Try.eKD5 : Ent := ⟨10, [.agg [.ref 147 1 0 3 none, .ref 148 3 0 6 none, .ref 150 7 0 6 none, .ref 149 10 0 2 none, .imm 0 [] 0], .agg [.int .u8 2, .int .i64 0, .int .i64 1, .str []]],
 [(149, .arr 47 10 true [.agg [.int .i64 0, .int .i64 2, .int .u8 1, .int .i64 0, .int .i64 0, .int .i64 8, .int .i64 0, .str [], .int .i64 0, .int .i64 0], .agg [.int .i64 1, .int .i64 0, .int .u8 2, .int .i64 0, .int .i64 0, .int .i64 8, .int .i64 0, .str [], .int .i64 0, .int .i64 0]]),
 (155, .arr 77 3 true [.agg [.int .i64 0, .int .i64 0, .str []]]),
 (154, .arr 3 1 true [.int .i64 0, .int .i64 1, .int .i64 2]),
 (150, .arr 45 7 false [.agg [.int .u8 1, .int .i64 8, .ref 154 1 0 3 none, .str [120], .str [], .ref 155 3 0 1 none, .imm 0 [] 0], .agg [.int .u8 0, .int .i64 0, .imm 0 [] 0, .str [], .str [], .imm 0 [] 0, .imm 0 [] 0], .agg [.int .u8 0, .int .i64 0, .imm 0 [] 0, .str [], .str [], .imm 0 [] 0, .imm 0 [] 0], .agg [.int .u8 0, .int .i64 0, .imm 0 [] 0, .str [], .str [], .imm 0 [] 0, .imm 0 [] 0], .agg [.int .u8 0, .int .i64 0, .imm 0 [] 0, .str [], .str [], .imm 0 [] 0, .imm 0 [] 0], .agg [.int .u8 0, .int .i64 0, .imm 0 [] 0, .str [], .str [], .imm 0 [] 0, .imm 0 [] 0]]),
 (148, .arr 52 3 true [.agg [.int .i64 8, .int .i64 0, .str []], .agg [.int .i64 8, .int .i64 0, .str []], .agg [.int .i64 0, .int .i64 0, .str []], .agg [.int .i64 0, .int .i64 0, .str []], .agg [.int .i64 0, .int .i64 0, .str []], .agg [.int .i64 0, .int .i64 0, .str []]]),
 (147, .arr 3 1 true [.int .i64 0, .int .i64 1, .int .i64 2])], 183,
 {d := .tuple [.agg [.ref 229 1 0 3 none, .ref 230 3 0 6 none, .ref 232 7 0 6 none, .ref 290 10 0 3 none, .imm 0 [] 0], .int .i64 0], vc := true, eff := [(290, some (.arr 47 10 true [.agg [.int .i64 0, .int .i64 2, .int .u8 1, .int .i64 0, .int .i64 0, .int .i64 8, .int .i64 0, .str [], .int .i64 0, .int .i64 0], .agg [.int .i64 0, .int .i64 1, .int .u8 3, .int .i64 0, .int .i64 0, .int .i64 8, .int .i64 0, .str [120], .int .i64 0, .int .i64 0], .agg [.int .i64 0, .int .i64 2, .int .u8 3, .int .i64 0, .int .i64 0, .int .i64 8, .int .i64 0, .str [120], .int .i64 0, .int .i64 0]])),
 (324, some (.arr 3 1 true [.int .i64 0])),
 (320, some (.arr 77 3 true [.agg [.int .i64 0, .int .i64 0, .str []], .agg [.int .i64 1, .int .i64 0, .str []]])),
 (319, some (.arr 3 1 true [.int .i64 0, .int .i64 1, .int .i64 2])),
 (232, some (.arr 45 7 false [.agg [.int .u8 2, .int .i64 8, .ref 319 1 0 3 none, .str [120], .str [120], .ref 320 3 0 2 none, .ref 324 1 0 1 none], .agg [.int .u8 0, .int .i64 0, .imm 0 [] 0, .str [], .str [], .imm 0 [] 0, .imm 0 [] 0], .agg [.int .u8 0, .int .i64 0, .imm 0 [] 0, .str [], .str [], .imm 0 [] 0, .imm 0 [] 0], .agg [.int .u8 0, .int .i64 0, .imm 0 [] 0, .str [], .str [], .imm 0 [] 0, .imm 0 [] 0], .agg [.int .u8 0, .int .i64 0, .imm 0 [] 0, .str [], .str [], .imm 0 [] 0, .imm 0 [] 0], .agg [.int .u8 0, .int .i64 0, .imm 0 [] 0, .str [], .str [], .imm 0 [] 0, .imm 0 [] 0]])),
 (230, some (.arr 52 3 true [.agg [.int .i64 8, .int .i64 8, .str [120]], .agg [.int .i64 8, .int .i64 0, .str []], .agg [.int .i64 0, .int .i64 0, .str []], .agg [.int .i64 0, .int .i64 0, .str []], .agg [.int .i64 0, .int .i64 0, .str []], .agg [.int .i64 0, .int .i64 0, .str []]])),
 (229, some (.arr 3 1 true [.int .i64 0, .int .i64 1, .int .i64 2]))], nw := (183, 326), met := [149, 155, 154, 150, 148, 147] }⟩
theorem Try.rKD5 : runFQ (getLQ Try.ftLKD) Try.ptKD Try.tm 2000 (callKQ [Try.eKD0] (callXQ (getLQ Try.ftLKD) Try.ptKD Try.tm 2000 60)) Try.eKD5.K Try.eKD5.args Try.eKD5.heap Try.eKD5.nx = some Try.eKD5.out := by kernel_rfl
theorem Try.kKD5 : EntOk Try.prog Try.eKD5 := entOk_of_runQ Try.tmOk Try.tmMixed Try.ftOkKD (l := [Try.eKD0]) (.cons Try.kKD0 .nil) Try.rKD5
theorem Try.rKDtop : saysTrue (runFQ (getLQ Try.ftLKD) Try.ptKD Try.tm 2000 (callKQ [Try.eKD2, Try.eKD3, Try.eKD4, Try.eKD5, Try.eKD1] (callXQ (getLQ Try.ftLKD) Try.ptKD Try.tm 2000 60)) 6 [] [] 0) = true := by kernel_rfl
theorem Try.namesKD : CallP Try.prog 6 [] (.bool true) := callP_knownQ Try.tmOk Try.tmMixed Try.ftOkKD (l := [Try.eKD2, Try.eKD3, Try.eKD4, Try.eKD5, Try.eKD1]) (.cons Try.kKD2 (.cons Try.kKD3 (.cons Try.kKD4 (.cons Try.kKD5 (.cons Try.kKD1 .nil))))) Try.rKDtop
end Go.Proofs
end
section
namespace Go.Proofs
open Go.Tm
set_option linter.unusedVariables false
def m_vote_Check (a0 : TVote) : Option Int :=
 Option.bind (if ¬ (a0.Promised = 0) then m_ballot_Check a0.Promised else some default) fun v1 =>
 Option.bind (α := Bool) (if a0.Ballot = 0 then
 some (((a0.Promised == 0) || (v1 == 0)) && (a0.Value == []))
 else
 Option.bind (if (a0.Promised = 0) ∨ (v1 = 0) then m_ballot_Check a0.Ballot else some default) fun v2 =>
 some (((((a0.Promised == 0) || (v1 == 0)) && (v2 == 0)) && (decide (a0.Ballot ≤ a0.Promised))) && (decide ((a0.Value.length : Int) ≤ 1024)))) fun b1 =>
 if ¬ (b1 = true) then
 some 8
 else
 some 0
def m_vote_asked (a0 : TVote) (a1 : Int) (a2 : List UInt8) : Option Int :=
 Option.bind (m_vote_Check a0) fun v1 =>
 if ¬ (v1 = 0) then
 some v1
 else
 Option.bind (m_ballot_Check a1) fun v2 =>
 if ¬ (v2 = 0) then
 some v2
 else
 if (a2.length : Int) > 1024 then
 some 3
 else
 if a1 < a0.Promised then
 some 70
 else
 some 0
def m_vote_Prepare (a0 : TVote) (a1 : Int) : Option (TVote × Int) :=
 Option.bind (m_vote_asked a0 a1 []) fun v1 =>
 if ¬ (v1 = 0) then
 some ((⟨0, 0, []⟩ : TVote), v1)
 else
 some ((⟨a1, a0.Ballot, a0.Value⟩ : TVote), 0)
def m_vote_Accept (a0 : TVote) (a1 : Int) (a2 : List UInt8) : Option (TVote × Int) :=
 Option.bind (m_vote_asked a0 a1 a2) fun v1 =>
 if ¬ (v1 = 0) then
 some ((⟨0, 0, []⟩ : TVote), v1)
 else
 some ((⟨a1, a1, a2⟩ : TVote), 0)
def m_ballot_Next (a0 : Int) (a1 : Int) : Option (Int × Int) :=
 Option.bind (m_ballot_node a1) fun v1 =>
 if ((¬ (v1 = true)) ∨ (a0 < 0)) ∨ (a0 > 8388613) then
 some (0, 2)
 else
 Option.bind (α := Int) (if ((wr .i64 ((wr .i64 ((wr .i64 (a0.tdiv 8)) * 8)) + a1)) ≤ a0) ∨ ((wr .i64 ((wr .i64 ((wr .i64 (a0.tdiv 8)) * 8)) + a1)) < 8) then
 some (wr .i64 ((wr .i64 ((wr .i64 ((wr .i64 (a0.tdiv 8)) * 8)) + a1)) + 8))
 else
 some (wr .i64 ((wr .i64 ((wr .i64 (a0.tdiv 8)) * 8)) + a1))) fun n1 =>
 if n1 > 8388613 then
 some (0, 9)
 else
 some (n1, 0)
def m_decree_node (a0 : Int) : Option Bool :=
 some ((decide (a0 ≥ 0)) && (decide (a0 < 6)))
def m_decree_mail (a0 : TMail) : Option Bool :=
 Option.bind (m_decree_node a0.From) fun v1 =>
 Option.bind (if v1 = true then m_decree_node a0.To else some default) fun v2 =>
 Option.bind (if (((v1 = true) ∧ (v2 = true)) ∧ (a0.Kind ≥ 1)) ∧ (a0.Kind ≤ 5) then m_ballot_Check a0.Ballot else some default) fun v3 =>
 some ((((((((((v1 && v2) && (decide (a0.Kind ≥ 1))) && (decide (a0.Kind ≤ 5))) && (v3 == 0)) && (decide (a0.Prior ≥ 0))) && (decide ((a0.Value.length : Int) ≤ 1024))) && (a0.Group == 0)) && (a0.Slot == 0)) && (a0.Id == 0)) && (a0.Time == 0))
def m_decree_Check_loop1 (a0 : TWorld) : List TAttempt → Nat → Bool → Option (Bool)
 | [], n1, b2 =>
  some b2
 | y1 :: rest1, n1, b2 =>
  Option.bind (α := Bool) (if (b2 = true) → n1 < a0.Votes.length then
  Option.bind (if b2 = true then m_vote_Check (a0.Votes.getD n1 default) else some default) fun v2 =>
  Option.bind (if (b2 = true) ∧ (v2 = 0) then m_attempt_Check (y1) else some default) fun v3 =>
  if ¬ (y1.Phase = 0) then
  Option.bind (m_ballot_Of (y1.Ballot)) fun v4 =>
  Option.bind (if (((b2 = true) ∧ (v2 = 0)) ∧ (v3 = 0)) ∧ (v4.2.1 = (n1 : Int)) then m_slices_Equal_int_int (y1.Members) a0.Members else some default) fun v5 =>
  some ((((b2 && (v2 == 0)) && (v3 == 0)) && (v4.2.1 == (n1 : Int))) && v5)
  else
  some ((b2 && (v2 == 0)) && (v3 == 0))
  else none) fun b3 =>
  m_decree_Check_loop1 a0 rest1 (n1 + 1) b3
def m_decree_Check_loop2 : List TMail → Bool → Option (Bool)
 | [], b5 =>
  some b5
 | y2 :: rest2, b5 =>
  Option.bind (if b5 = true then m_decree_mail (y2) else some default) fun v6 =>
  m_decree_Check_loop2 rest2 (b5 && v6)
def m_decree_Check_loop3 : List TChoice → Bool → Option (Bool)
 | [], b7 =>
  some b7
 | y3 :: rest3, b7 =>
  Option.bind (if b7 = true then m_decree_node (y3.Node) else some default) fun v7 =>
  m_decree_Check_loop3 rest3 ((b7 && v7) && (decide (((y3.Value).length : Int) ≤ 1024)))
theorem m_decree_Check_loop3_n (b7 : Bool) : m_decree_Check_loop3 [] b7 =
  (some b7 : Option (Bool)) := rfl
theorem m_decree_Check_loop3_c (y3 : TChoice) (rest3 : List TChoice) (b7 : Bool) : m_decree_Check_loop3 (y3 :: rest3) b7 =
  (Option.bind (if b7 = true then m_decree_node (y3.Node) else some default) fun v7 =>
  m_decree_Check_loop3 rest3 ((b7 && v7) && (decide (((y3.Value).length : Int) ≤ 1024))) : Option (Bool)) := rfl
def m_decree_Check (a0 : TWorld) : Option Int :=
 Option.bind (m_quorum_Check a0.Members) fun v1 =>
 if ¬ (((((v1 = 0) ∧ ((a0.Votes.length : Int) = 6)) ∧ ((a0.Tries.length : Int) = 6)) ∧ ((a0.Mail.length : Int) ≤ 1000)) ∧ ((a0.Chosen.length : Int) ≤ 1000)) then
 some 8
 else
 Option.bind (α := Bool) (m_decree_Check_loop1 a0 a0.Tries 0 (((((v1 == 0) && ((a0.Votes.length : Int) == 6)) && ((a0.Tries.length : Int) == 6)) && (decide ((a0.Mail.length : Int) ≤ 1000))) && (decide ((a0.Chosen.length : Int) ≤ 1000)))) fun b1 =>
 Option.bind (α := Bool) (m_decree_Check_loop2 a0.Mail b1) fun b4 =>
 Option.bind (α := Bool) (m_decree_Check_loop3 a0.Chosen b4) fun b6 =>
 if ¬ (b6 = true) then
 some 8
 else
 some 0
def m_slices_Clone_Vote_Vote (a0 : List TVote) : Option ((List TVote)) :=
 if a0.length * 32 ≤ 140737488355328 then
 some a0
 else none
def m_slices_Clone_Mail_Mail (a0 : List TMail) : Option ((List TMail)) :=
 if a0.length * 88 ≤ 140737488355328 then
 some a0
 else none
def m_slices_Clone_Choice_Choice (a0 : List TChoice) : Option ((List TChoice)) :=
 if a0.length * 24 ≤ 140737488355328 then
 some a0
 else none
def m_slices_Clone_Attempt_Attempt (a0 : List TAttempt) : Option ((List TAttempt)) :=
 if a0.length * 120 ≤ 140737488355328 then
 some a0
 else none
def m_decree_New (a0 : List Int) : Option (TWorld × Int) :=
 Option.bind (m_quorum_Check a0) fun v1 =>
 if ¬ (v1 = 0) then
 some ((⟨[], [], [], [], []⟩ : TWorld), v1)
 else
 Option.bind (m_slices_Clone_int_int a0) fun v2 =>
 some ((⟨v2, ((List.replicate 6 (⟨0, 0, []⟩ : TVote)).take 6), ((List.replicate 6 (⟨0, 0, [], [], [], [], []⟩ : TAttempt)).take 6), [], []⟩ : TWorld), 0)
def m_decree_Twin_loop1 (v5 : (List TAttempt)) : Nat → (List TAttempt) → Int → Option ((List TAttempt))
 | 0, _, _ => none
 | fu1 + 1, l2, n1 =>
  if n1 < (v5.length : Int) then
  if (0 ≤ n1 ∧ n1 < (l2.length : Int)) then
  Option.bind (m_attempt_Twin (l2.getD n1.toNat default)) fun v6 =>
  if (0 ≤ n1 ∧ n1 < (l2.length : Int)) then
  if l2.length < 1000000 then
  m_decree_Twin_loop1 v5 fu1 (l2.set n1.toNat v6) (wr .i64 (n1 + 1))
  else none
  else none
  else none
  else
  if l2.length ≤ n1.toNat then
  some l2
  else none
def m_decree_Twin (a0 : TWorld) : Option TWorld :=
 Option.bind (m_slices_Clone_int_int a0.Members) fun v1 =>
 Option.bind (m_slices_Clone_Vote_Vote a0.Votes) fun v2 =>
 Option.bind (m_slices_Clone_Mail_Mail a0.Mail) fun v3 =>
 Option.bind (m_slices_Clone_Choice_Choice a0.Chosen) fun v4 =>
 Option.bind (m_slices_Clone_Attempt_Attempt a0.Tries) fun v5 =>
 Option.bind (α := (List TAttempt)) (m_decree_Twin_loop1 v5 (a0.Tries.length + 1) v5 0) fun l1 =>
 some (⟨v1, v2, l1, v3, v4⟩ : TWorld)
def m_decree_world_tell_loop1 (a0 : Tdecree_world) (a1 : TMail) : Nat → (List TMail) → Int → Int → Option (Tdecree_world)
 | 0, _, _, _ => none
 | fu1 + 1, l1, n1, n2 =>
  if n2 < (a0.World.Members.length : Int) then
  Option.bind (α := (List TMail)) (if (0 ≤ n2 ∧ n2 < (a0.World.Members.length : Int)) then
  if ¬ ((a0.World.Members.getD n2.toNat default) = a1.From) then
  if l1.length + [(⟨a1.From, (a0.World.Members.getD n2.toNat default), a1.Kind, a1.Group, a1.Slot, a1.Ballot, a1.Prior, a1.Value, a1.Id, a1.Time⟩ : TMail)].length < 1000000 then
  some (l1 ++ [(⟨a1.From, (a0.World.Members.getD n2.toNat default), a1.Kind, a1.Group, a1.Slot, a1.Ballot, a1.Prior, a1.Value, a1.Id, a1.Time⟩ : TMail)])
  else none
  else
  some l1
  else none) fun l2 =>
  m_decree_world_tell_loop1 a0 a1 fu1 l2 (a0.World.Members.getD n2.toNat default) (wr .i64 (n2 + 1))
  else
  some (⟨(⟨a0.World.Members, a0.World.Votes, a0.World.Tries, l1, a0.World.Chosen⟩ : TWorld)⟩ : Tdecree_world)
def m_decree_world_tell (a0 : Tdecree_world) (a1 : TMail) : Option Tdecree_world :=
 m_decree_world_tell_loop1 a0 a1 (a0.World.Members.length + 1) a0.World.Mail a1.To 0
def m_decree_world_taken (a0 : Tdecree_world) (a1 : Int) (a2 : Int) (a3 : Int) : Option Tdecree_world :=
 if (0 ≤ a1 ∧ a1 < (a0.World.Tries.length : Int)) then
 Option.bind (m_attempt_Accepted (a0.World.Tries.getD a1.toNat default) a2 a3) fun v1 =>
 if ¬ (v1.2 = 0) then
 some a0
 else
 Option.bind (α := (List TChoice)) (if (v1.1.Phase = 3) → (0 ≤ a1 ∧ a1 < (a0.World.Tries.length : Int)) then
 if (v1.1.Phase = 3) ∧ (¬ ((a0.World.Tries.getD a1.toNat default).Phase = 3)) then
 if a0.World.Chosen.length + [(⟨a1, v1.1.Value⟩ : TChoice)].length < 1000000 then
 some (a0.World.Chosen ++ [(⟨a1, v1.1.Value⟩ : TChoice)])
 else none
 else
 some a0.World.Chosen
 else none) fun l1 =>
 if (0 ≤ a1 ∧ a1 < (a0.World.Tries.length : Int)) then
 some (⟨(⟨a0.World.Members, a0.World.Votes, (a0.World.Tries.set a1.toNat v1.1), a0.World.Mail, l1⟩ : TWorld)⟩ : Tdecree_world)
 else none
 else none
def m_decree_world_promised (a0 : Tdecree_world) (a1 : Int) (a2 : Int) (a3 : TPromise) : Option Tdecree_world :=
 if (0 ≤ a1 ∧ a1 < (a0.World.Tries.length : Int)) then
 Option.bind (m_attempt_Promised (a0.World.Tries.getD a1.toNat default) a2 a3) fun v1 =>
 if ¬ (v1.2 = 0) then
 some a0
 else
 if (0 ≤ a1 ∧ a1 < (a0.World.Tries.length : Int)) then
 if v1.1.Phase = 1 then
 some (⟨(⟨a0.World.Members, a0.World.Votes, (a0.World.Tries.set a1.toNat v1.1), a0.World.Mail, a0.World.Chosen⟩ : TWorld)⟩ : Tdecree_world)
 else
 Option.bind (m_decree_world_tell (⟨(⟨a0.World.Members, a0.World.Votes, (a0.World.Tries.set a1.toNat v1.1), a0.World.Mail, a0.World.Chosen⟩ : TWorld)⟩ : Tdecree_world) (⟨a1, 0, 3, 0, 0, a2, 0, v1.1.Value, 0, 0⟩ : TMail)) fun v2 =>
 Option.bind (m_quorum_Has v2.World.Members a1) fun v3 =>
 if ¬ (v3 = true) then
 some v2
 else
 if (0 ≤ a1 ∧ a1 < (v2.World.Votes.length : Int)) then
 Option.bind (m_vote_Accept (v2.World.Votes.getD a1.toNat default) a2 v1.1.Value) fun v4 =>
 if v4.2 = 0 then
 if (0 ≤ a1 ∧ a1 < (v2.World.Votes.length : Int)) then
 Option.bind (m_decree_world_taken (⟨(⟨v2.World.Members, (v2.World.Votes.set a1.toNat v4.1), v2.World.Tries, v2.World.Mail, v2.World.Chosen⟩ : TWorld)⟩ : Tdecree_world) a1 a2 a1) fun v5 =>
 some v5
 else none
 else
 some v2
 else none
 else none
 else none
def m_decree_world_begin (a0 : Tdecree_world) (a1 : Int) (a2 : List UInt8) : Option (Int × Tdecree_world) :=
 if (0 ≤ a1 ∧ a1 < (a0.World.Votes.length : Int)) then
 Option.bind (m_ballot_Next ((a0.World.Votes.getD a1.toNat default).Promised) a1) fun v1 =>
 if ¬ (v1.2 = 0) then
 some (v1.2, a0)
 else
 Option.bind (m_vote_Prepare (a0.World.Votes.getD a1.toNat default) v1.1) fun v2 =>
 if (0 ≤ a1 ∧ a1 < (a0.World.Votes.length : Int)) then
 if ¬ (v2.2 = 0) then
 some (v2.2, (⟨(⟨a0.World.Members, (a0.World.Votes.set a1.toNat v2.1), a0.World.Tries, a0.World.Mail, a0.World.Chosen⟩ : TWorld)⟩ : Tdecree_world))
 else
 Option.bind (m_attempt_Begin a0.World.Members v1.1 a2) fun v3 =>
 if (0 ≤ a1 ∧ a1 < (a0.World.Tries.length : Int)) then
 if ¬ (v3.2 = 0) then
 some (v3.2, (⟨(⟨a0.World.Members, (a0.World.Votes.set a1.toNat v2.1), (a0.World.Tries.set a1.toNat v3.1), a0.World.Mail, a0.World.Chosen⟩ : TWorld)⟩ : Tdecree_world))
 else
 Option.bind (m_decree_world_tell (⟨(⟨a0.World.Members, (a0.World.Votes.set a1.toNat v2.1), (a0.World.Tries.set a1.toNat v3.1), a0.World.Mail, a0.World.Chosen⟩ : TWorld)⟩ : Tdecree_world) (⟨a1, 0, 1, 0, 0, v1.1, 0, [], 0, 0⟩ : TMail)) fun v4 =>
 Option.bind (m_decree_world_promised v4 a1 v1.1 (⟨a1, (a0.World.Votes.getD a1.toNat default).Ballot, (a0.World.Votes.getD a1.toNat default).Value⟩ : TPromise)) fun v5 =>
 some (0, v5)
 else none
 else none
 else none
def m_decree_world_come (a0 : Tdecree_world) (a1 : TMail) : Option Tdecree_world :=
 if (0 ≤ a1.To ∧ a1.To < (a0.World.Votes.length : Int)) then
 Option.bind (α := Tdecree_world ⊕ (Int × Int × (List UInt8) × Int × Int × (List UInt8) × Int)) (if a1.Kind = 2 then
 Option.bind (m_decree_world_promised a0 a1.To a1.Ballot (⟨a1.From, a1.Prior, a1.Value⟩ : TPromise)) fun v1 =>
 some (.inl v1)
 else
 if a1.Kind = 4 then
 Option.bind (m_decree_world_taken a0 a1.To a1.Ballot a1.From) fun v2 =>
 some (.inl v2)
 else
 if a1.Kind = 5 then
 some (.inl a0)
 else
 if a1.Kind = 1 then
 Option.bind (m_vote_Prepare (a0.World.Votes.getD a1.To.toNat default) a1.Ballot) fun v3 =>
 some (.inr (v3.1.Promised, v3.1.Ballot, v3.1.Value, 2, v3.1.Ballot, v3.1.Value, v3.2))
 else
 if a1.Kind = 3 then
 Option.bind (m_vote_Accept (a0.World.Votes.getD a1.To.toNat default) a1.Ballot a1.Value) fun v4 =>
 some (.inr (v4.1.Promised, v4.1.Ballot, v4.1.Value, 4, 0, [], v4.2))
 else
 some (.inr ((a0.World.Votes.getD a1.To.toNat default).Promised, (a0.World.Votes.getD a1.To.toNat default).Ballot, (a0.World.Votes.getD a1.To.toNat default).Value, 0, 0, [], 0))) fun z => match z with
 | (.inl r) => some r
 | (.inr (n1, n2, s1, n3, n4, s2, n5)) =>
 Option.bind (α := (List TVote) × Int × Int × (List UInt8)) (if ¬ (n5 = 0) then
 if (0 ≤ a1.To ∧ a1.To < (a0.World.Votes.length : Int)) then
 some (a0.World.Votes, 5, (a0.World.Votes.getD a1.To.toNat default).Promised, [])
 else none
 else
 if (0 ≤ a1.To ∧ a1.To < (a0.World.Votes.length : Int)) then
 some ((a0.World.Votes.set a1.To.toNat (⟨n1, n2, s1⟩ : TVote)), n3, n4, s2)
 else none) fun (l1, n6, n7, s3) =>
 if a0.World.Mail.length + [(⟨a1.To, a1.From, n6, 0, 0, a1.Ballot, n7, s3, 0, 0⟩ : TMail)].length < 1000000 then
 some (⟨(⟨a0.World.Members, l1, a0.World.Tries, (a0.World.Mail ++ [(⟨a1.To, a1.From, n6, 0, 0, a1.Ballot, n7, s3, 0, 0⟩ : TMail)]), a0.World.Chosen⟩ : TWorld)⟩ : Tdecree_world)
 else none
 else none
def m_decree_Do (a0 : TWorld) (a1 : TMove) : Option (TWorld × Int) :=
 Option.bind (m_decree_Check a0) fun v1 =>
 if ¬ (v1 = 0) then
 some ((⟨[], [], [], [], []⟩ : TWorld), v1)
 else
 Option.bind (m_decree_Twin a0) fun v2 =>
 Option.bind (α := (TWorld × Int) ⊕ ((List Int) × (List TVote) × (List TAttempt) × (List TMail) × (List TChoice))) (Option.bind (α := Bool) (if a1.Kind = 1 then
 some (a1.Kind == 1)
 else
 some (a1.Kind == 5)) fun b1 =>
 if b1 = true then
 Option.bind (m_decree_node a1.Node) fun v3 =>
 if ¬ (v3 = true) then
 some (.inl ((⟨[], [], [], [], []⟩ : TWorld), 2))
 else
 if a1.Kind = 5 then
 if (0 ≤ a1.Node ∧ a1.Node < (v2.Tries.length : Int)) then
 some (.inr (v2.Members, v2.Votes, (v2.Tries.set a1.Node.toNat (⟨0, 0, [], [], [], [], []⟩ : TAttempt)), v2.Mail, v2.Chosen))
 else none
 else
 if (a1.Value.length : Int) > 1024 then
 some (.inl ((⟨[], [], [], [], []⟩ : TWorld), 3))
 else
 Option.bind (m_decree_world_begin (⟨v2⟩ : Tdecree_world) a1.Node a1.Value) fun v4 =>
 if ¬ (v4.1 = 0) then
 some (.inl ((⟨[], [], [], [], []⟩ : TWorld), v4.1))
 else
 some (.inr (v4.2.World.Members, v4.2.World.Votes, v4.2.World.Tries, v4.2.World.Mail, v4.2.World.Chosen))
 else
 Option.bind (α := Bool) (if a1.Kind = 2 then
 some (a1.Kind == 2)
 else
 if a1.Kind = 3 then
 some (a1.Kind == 3)
 else
 some (a1.Kind == 4)) fun b2 =>
 if b2 = true then
 if (a1.At < 0) ∨ (a1.At ≥ (v2.Mail.length : Int)) then
 some (.inl ((⟨[], [], [], [], []⟩ : TWorld), 6))
 else
 if (0 ≤ a1.At ∧ a1.At < (v2.Mail.length : Int)) then
 Option.bind (α := (List TMail)) (if ¬ (a1.Kind = 3) then
 if 0 ≤ a1.At ∧ a1.At < (v2.Mail.length : Int) then
 if v2.Mail.length < 1000000 then
 some (v2.Mail.eraseIdx a1.At.toNat)
 else none
 else none
 else
 some v2.Mail) fun l6 =>
 if ¬ (a1.Kind = 4) then
 Option.bind (m_decree_world_come (⟨(⟨v2.Members, v2.Votes, v2.Tries, l6, v2.Chosen⟩ : TWorld)⟩ : Tdecree_world) (v2.Mail.getD a1.At.toNat default)) fun v5 =>
 some (.inr (v5.World.Members, v5.World.Votes, v5.World.Tries, v5.World.Mail, v5.World.Chosen))
 else
 some (.inr (v2.Members, v2.Votes, v2.Tries, l6, v2.Chosen))
 else none
 else
 some (.inl ((⟨[], [], [], [], []⟩ : TWorld), 2))) fun z => match z with
 | (.inl r) => some r
 | (.inr (l1, l2, l3, l4, l5)) =>
 if ((l4.length : Int) > 1000) ∨ ((l5.length : Int) > 1000) then
 some ((⟨[], [], [], [], []⟩ : TWorld), 9)
 else
 some ((⟨l1, l2, l3, l4, l5⟩ : TWorld), 0)
def m_decree_Run_loop1 : List TMove → (List Int) → (List TVote) → (List TAttempt) → (List TMail) → (List TChoice) → Option ((List Int) × (List TVote) × (List TAttempt) × (List TMail) × (List TChoice))
 | [], l6, l7, l8, l9, l10 =>
  some (l6, l7, l8, l9, l10)
 | y1 :: rest1, l6, l7, l8, l9, l10 =>
  Option.bind (α := (List Int) × (List TVote) × (List TAttempt) × (List TMail) × (List TChoice)) (Option.bind (m_decree_Do (⟨l6, l7, l8, l9, l10⟩ : TWorld) (y1)) fun v2 =>
  if v2.2 = 0 then
  some (v2.1.Members, v2.1.Votes, v2.1.Tries, v2.1.Mail, v2.1.Chosen)
  else
  some (l6, l7, l8, l9, l10)) fun (l11, l12, l13, l14, l15) =>
  m_decree_Run_loop1 rest1 l11 l12 l13 l14 l15
def m_decree_Run (a0 : List Int) (a1 : List TMove) : Option (TWorld × Int) :=
 Option.bind (m_decree_New a0) fun v1 =>
 if ¬ (v1.2 = 0) then
 some ((⟨[], [], [], [], []⟩ : TWorld), v1.2)
 else
 if (a1.length : Int) > 1000 then
 some ((⟨[], [], [], [], []⟩ : TWorld), 4)
 else
 Option.bind (α := (List Int) × (List TVote) × (List TAttempt) × (List TMail) × (List TChoice)) (m_decree_Run_loop1 a1 v1.1.Members v1.1.Votes v1.1.Tries v1.1.Mail v1.1.Chosen) fun (l1, l2, l3, l4, l5) =>
 some ((⟨l1, l2, l3, l4, l5⟩ : TWorld), 0)
def m_towncrierlaw09_long_loop1 : List TMove → Option (Bool ⊕ Unit)
 | [] =>
  some (.inr ())
 | y1 :: rest1 =>
  if ((y1.Value).length : Int) > 2000 then
  some (.inl true)
  else
  m_towncrierlaw09_long_loop1 rest1 
theorem m_towncrierlaw09_long_loop1_n : m_towncrierlaw09_long_loop1 [] =
  (some (.inr ()) : Option (Bool ⊕ Unit)) := rfl
theorem m_towncrierlaw09_long_loop1_c (y1 : TMove) (rest1 : List TMove) : m_towncrierlaw09_long_loop1 (y1 :: rest1) =
  (if ((y1.Value).length : Int) > 2000 then
  some (.inl true)
  else
  m_towncrierlaw09_long_loop1 rest1 : Option (Bool ⊕ Unit)) := rfl
def m_towncrierlaw09_long (a0 : List TMove) : Option Bool :=
 Option.bind (α := Bool ⊕ Unit) (m_towncrierlaw09_long_loop1 a0 ) fun z => match z with
 | (.inl r) => some r
 | (.inr _) =>
 some false
def m_towncrierlaw09_begin (a0 : Int) (a1 : List UInt8) : Option TMove :=
 some (⟨1, a0, 0, a1⟩ : TMove)
def m_towncrierlaw09_deliver (a0 : Int) : Option TMove :=
 some (⟨2, 0, a0, []⟩ : TMove)
end Go.Proofs
end

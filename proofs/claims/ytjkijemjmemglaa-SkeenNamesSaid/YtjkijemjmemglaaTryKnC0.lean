/- Known calls of one closed run, each reckoned by itself; by program (genknow.py). -/
import Derived.Test.YtjkijemjmemglaaTryFtC
import Derived.Test.YtjkijemjmemglaaTmQuick
namespace Go.Proofs
open Go.Tm
set_option maxRecDepth 100000

def Try.eC0 : Ent := ⟨10, [.agg [.int .i64 1, .ref 253 7 0 1 none, .imm 0 [] 0], .int .i64 0, .agg [.int .u8 2, .int .i64 0, .imm 0 [] 0, .int .i64 0, .str [], .str [], .int .i64 5, .int .i64 3, .imm 0 [] 0, .int .i64 0, .int .i64 0, .int .i64 0]],
 [(251, .arr 3 1 true [.int .i64 0]),
  (253, .arr 83 7 false [.agg [.int .i64 5, .ref 251 1 0 1 none, .int .i64 0, .str [], .str [], .int .i64 1, .bool false]])], 258,
 { d := .tuple [.agg [.int .i64 3, .ref 279 7 0 0 none, .ref 292 2 0 1 none], .ref 294 5 0 1 none, .int .i64 0], vc := true, eff := [(280, some (.arr 3 1 true [.int .i64 0])),
  (294, some (.arr 31 5 false [.agg [.int .i64 5, .ref 280 1 0 1 none, .int .i64 0, .str [], .str []]])),
  (292, some (.arr 72 2 true [.agg [.int .i64 3, .int .i64 5]])),
  (279, some (.arr 83 7 false [.agg [.int .i64 0, .imm 0 [] 0, .int .i64 0, .str [], .str [], .int .i64 0, .bool false]]))], nw := (258, 295), met := [251, 253] }⟩
theorem Try.rC0 : runFQ (getLQ Try.ftLC) Try.ptC Try.tm 2000 (callKQ [] (callXQ (getLQ Try.ftLC) Try.ptC Try.tm 2000 60)) Try.eC0.K Try.eC0.args Try.eC0.heap Try.eC0.nx = some Try.eC0.out := by kernel_rfl
theorem Try.kC0 : EntOk Try.prog Try.eC0 := entOk_of_runQ Try.tmOk Try.tmMixed Try.ftOkC (l := []) .nil Try.rC0

def Try.eC1 : Ent := ⟨10, [.agg [.int .i64 7, .ref 623 7 0 2 none, .imm 0 [] 0], .int .i64 0, .agg [.int .u8 2, .int .i64 0, .imm 0 [] 0, .int .i64 0, .str [], .str [], .int .i64 5, .int .i64 3, .imm 0 [] 0, .int .i64 0, .int .i64 0, .int .i64 0]],
 [(625, .arr 3 1 true [.int .i64 0]),
  (624, .arr 3 1 true [.int .i64 0]),
  (623, .arr 83 7 false [.agg [.int .i64 5, .ref 624 1 0 1 none, .int .i64 0, .str [], .str [], .int .i64 1, .bool false], .agg [.int .i64 9, .ref 625 1 0 1 none, .int .i64 0, .str [], .str [], .int .i64 7, .bool true]])], 650,
 { d := .tuple [.agg [.int .i64 7, .ref 689 7 0 0 none, .ref 732 2 0 2 none], .ref 734 5 0 2 none, .int .i64 0], vc := true, eff := [(691, some (.arr 3 1 true [.int .i64 0])),
  (690, some (.arr 3 1 true [.int .i64 0])),
  (734, some (.arr 31 5 false [.agg [.int .i64 5, .ref 690 1 0 1 none, .int .i64 0, .str [], .str []], .agg [.int .i64 9, .ref 691 1 0 1 none, .int .i64 0, .str [], .str []]])),
  (732, some (.arr 72 2 true [.agg [.int .i64 3, .int .i64 5], .agg [.int .i64 7, .int .i64 9]])),
  (689, some (.arr 83 7 false [.agg [.int .i64 0, .imm 0 [] 0, .int .i64 0, .str [], .str [], .int .i64 0, .bool false], .agg [.int .i64 0, .imm 0 [] 0, .int .i64 0, .str [], .str [], .int .i64 0, .bool false]]))], nw := (650, 735), met := [625, 624, 623] }⟩
theorem Try.rC1 : runFQ (getLQ Try.ftLC) Try.ptC Try.tm 2000 (callKQ [] (callXQ (getLQ Try.ftLC) Try.ptC Try.tm 2000 60)) Try.eC1.K Try.eC1.args Try.eC1.heap Try.eC1.nx = some Try.eC1.out := by kernel_rfl
theorem Try.kC1 : EntOk Try.prog Try.eC1 := entOk_of_runQ Try.tmOk Try.tmMixed Try.ftOkC (l := []) .nil Try.rC1

def Try.eC2 : Ent := ⟨11, [],
 [], 493,
 { d := .bool true, vc := true, eff := [], nw := (493, 738), met := [] }⟩
theorem Try.rC2 : runFQ (getLQ Try.ftLC) Try.ptC Try.tm 2000 (callKQ [Try.eC1] (callXQ (getLQ Try.ftLC) Try.ptC Try.tm 2000 60)) Try.eC2.K Try.eC2.args Try.eC2.heap Try.eC2.nx = some Try.eC2.out := by kernel_rfl
theorem Try.kC2 : EntOk Try.prog Try.eC2 := entOk_of_runQ Try.tmOk Try.tmMixed Try.ftOkC (l := [Try.eC1]) (.cons Try.kC1 .nil) Try.rC2

def Try.eC3 : Ent := ⟨6, [.ref 7 12 0 3 (some 3)],
 [(5, .arr 3 1 true [.int .i64 0]),
  (2, .arr 3 1 true [.int .i64 0]),
  (7, .arr 33 12 false [.agg [.int .u8 1, .int .i64 5, .ref 2 1 0 1 (some 1), .int .i64 0, .str [], .str [], .int .i64 0, .int .i64 0, .imm 0 [] 0, .int .i64 0, .int .i64 0, .int .i64 0], .agg [.int .u8 1, .int .i64 9, .ref 5 1 0 1 (some 1), .int .i64 0, .str [], .str [], .int .i64 0, .int .i64 0, .imm 0 [] 0, .int .i64 0, .int .i64 0, .int .i64 0], .agg [.int .u8 2, .int .i64 0, .imm 0 [] 0, .int .i64 0, .str [], .str [], .int .i64 9, .int .i64 7, .imm 0 [] 0, .int .i64 0, .int .i64 0, .int .i64 0]])], 8,
 { d := .tuple [.agg [.int .i64 7, .ref 129 7 0 2 none, .imm 0 [] 0], .imm 5 [] 0, .bool true], vc := true, eff := [(131, some (.arr 3 1 true [.int .i64 0])),
  (130, some (.arr 3 1 true [.int .i64 0])),
  (129, some (.arr 83 7 false [.agg [.int .i64 5, .ref 130 1 0 1 none, .int .i64 0, .str [], .str [], .int .i64 1, .bool false], .agg [.int .i64 9, .ref 131 1 0 1 none, .int .i64 0, .str [], .str [], .int .i64 7, .bool true]]))], nw := (8, 156), met := [5, 2, 7] }⟩
theorem Try.rC3 : runFQ (getLQ Try.ftLC) Try.ptC Try.tm 2000 (callKQ [] (callXQ (getLQ Try.ftLC) Try.ptC Try.tm 2000 60)) Try.eC3.K Try.eC3.args Try.eC3.heap Try.eC3.nx = some Try.eC3.out := by kernel_rfl
theorem Try.kC3 : EntOk Try.prog Try.eC3 := entOk_of_runQ Try.tmOk Try.tmMixed Try.ftOkC (l := []) .nil Try.rC3

def Try.eC4 : Ent := ⟨6, [.ref 226 12 0 6 (some 6)],
 [(225, .arr 3 1 true [.int .i64 1]),
  (223, .arr 3 1 true [.int .i64 0]),
  (219, .arr 3 1 true [.int .i64 0]),
  (226, .arr 33 12 false [.agg [.int .u8 1, .int .i64 5, .ref 219 1 0 1 (some 1), .int .i64 0, .str [], .str [], .int .i64 0, .int .i64 0, .imm 0 [] 0, .int .i64 0, .int .i64 0, .int .i64 0], .agg [.int .u8 2, .int .i64 0, .imm 0 [] 0, .int .i64 0, .str [], .str [], .int .i64 5, .int .i64 3, .imm 0 [] 0, .int .i64 0, .int .i64 0, .int .i64 0], .agg [.int .u8 1, .int .i64 5, .ref 223 1 0 1 (some 1), .int .i64 0, .str [], .str [], .int .i64 0, .int .i64 0, .imm 0 [] 0, .int .i64 0, .int .i64 0, .int .i64 0], .agg [.int .u8 2, .int .i64 0, .imm 0 [] 0, .int .i64 0, .str [], .str [], .int .i64 5, .int .i64 9, .imm 0 [] 0, .int .i64 0, .int .i64 0, .int .i64 0], .agg [.int .u8 1, .int .i64 6, .ref 225 1 0 1 (some 1), .int .i64 0, .str [], .str [], .int .i64 0, .int .i64 0, .imm 0 [] 0, .int .i64 0, .int .i64 0, .int .i64 0], .agg [.int .u8 0, .int .i64 0, .imm 0 [] 0, .int .i64 0, .str [], .str [], .int .i64 0, .int .i64 0, .imm 0 [] 0, .int .i64 0, .int .i64 0, .int .i64 0]])], 227,
 { d := .tuple [.agg [.int .i64 3, .imm 7 [] 9, .ref 393 2 0 1 none], .ref 396 5 0 1 none, .bool true], vc := true, eff := [(280, some (.arr 3 1 true [.int .i64 0])),
  (396, some (.arr 31 5 false [.agg [.int .i64 5, .ref 280 1 0 1 none, .int .i64 0, .str [], .str []]])),
  (393, some (.arr 72 2 true [.agg [.int .i64 3, .int .i64 5]]))], nw := (227, 397), met := [225, 223, 219, 226] }⟩
theorem Try.rC4 : runFQ (getLQ Try.ftLC) Try.ptC Try.tm 2000 (callKQ [Try.eC0] (callXQ (getLQ Try.ftLC) Try.ptC Try.tm 2000 60)) Try.eC4.K Try.eC4.args Try.eC4.heap Try.eC4.nx = some Try.eC4.out := by kernel_rfl
theorem Try.kC4 : EntOk Try.prog Try.eC4 := entOk_of_runQ Try.tmOk Try.tmMixed Try.ftOkC (l := [Try.eC0]) (.cons Try.kC0 .nil) Try.rC4

theorem Try.rCtop : saysTrue (runFQ (getLQ Try.ftLC) Try.ptC Try.tm 2000 (callKQ [Try.eC2, Try.eC3, Try.eC4] (callXQ (getLQ Try.ftLC) Try.ptC Try.tm 2000 60)) 3 [] [] 0) = true := by kernel_rfl
theorem Try.namesC : CallP Try.prog 3 [] (.bool true) := callP_knownQ Try.tmOk Try.tmMixed Try.ftOkC (l := [Try.eC2, Try.eC3, Try.eC4]) (.cons Try.kC2 (.cons Try.kC3 (.cons Try.kC4 .nil))) Try.rCtop

end Go.Proofs

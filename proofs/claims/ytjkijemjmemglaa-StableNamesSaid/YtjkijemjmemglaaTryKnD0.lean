/- Known calls of one closed run, each reckoned by itself; by program (genknow.py). -/
import Derived.Test.YtjkijemjmemglaaTryFtD
import Derived.Test.YtjkijemjmemglaaTmQuick
namespace Go.Proofs
open Go.Tm
set_option maxRecDepth 100000

def Try.eD0 : Ent := ⟨21, [],
 [], 344,
 { d := .bool true, vc := true, eff := [], nw := (344, 446), met := [] }⟩
theorem Try.rD0 : runFQ (getLQ Try.ftLD) Try.ptD Try.tm 2000 (callKQ [] (callXQ (getLQ Try.ftLD) Try.ptD Try.tm 2000 60)) Try.eD0.K Try.eD0.args Try.eD0.heap Try.eD0.nx = some Try.eD0.out := by kernel_rfl
theorem Try.kD0 : EntOk Try.prog Try.eD0 := entOk_of_runQ Try.tmOk Try.tmMixed Try.ftOkD (l := []) .nil Try.rD0

def Try.eD1 : Ent := ⟨13, [.ref 3 5 0 3 (some 3)],
 [(3, .arr 50 5 true [.agg [.int .u8 1, .int .i64 1, .int .i64 3, .int .i64 17, .str []], .agg [.int .u8 2, .int .i64 1, .int .i64 3, .int .i64 17, .str [120]], .agg [.int .u8 1, .int .i64 1, .int .i64 3, .int .i64 25, .str []]])], 4,
 { d := .tuple [.agg [.ref 73 1 0 2 none, .ref 68 5 0 1 none], .bool true], vc := true, eff := [(68, some (.arr 104 5 true [.agg [.int .i64 1, .int .i64 3, .int .i64 25, .int .i64 17, .str [120]]])),
  (73, some (.arr 53 1 true [.imm 0 [] 0, .imm 0 [] 0]))], nw := (4, 88), met := [3] }⟩
theorem Try.rD1 : runFQ (getLQ Try.ftLD) Try.ptD Try.tm 2000 (callKQ [] (callXQ (getLQ Try.ftLD) Try.ptD Try.tm 2000 60)) Try.eD1.K Try.eD1.args Try.eD1.heap Try.eD1.nx = some Try.eD1.out := by kernel_rfl
theorem Try.kD1 : EntOk Try.prog Try.eD1 := entOk_of_runQ Try.tmOk Try.tmMixed Try.ftOkD (l := []) .nil Try.rD1

def Try.eD2 : Ent := ⟨13, [.ref 139 5 0 2 (some 2)],
 [(139, .arr 50 5 true [.agg [.int .u8 1, .int .i64 1, .int .i64 3, .int .i64 17, .str []], .agg [.int .u8 3, .int .i64 1, .int .i64 1, .int .i64 0, .str [97]]])], 140,
 { d := .tuple [.agg [.ref 180 1 0 2 none, .ref 175 5 0 1 none], .bool true], vc := true, eff := [(175, some (.arr 104 5 true [.agg [.int .i64 1, .int .i64 3, .int .i64 17, .int .i64 0, .str []]])),
  (191, some (.arr 9 1 true [.str [97]])),
  (180, some (.arr 53 1 false [.imm 0 [] 0, .ref 191 1 0 1 none]))], nw := (140, 193), met := [139] }⟩
theorem Try.rD2 : runFQ (getLQ Try.ftLD) Try.ptD Try.tm 2000 (callKQ [] (callXQ (getLQ Try.ftLD) Try.ptD Try.tm 2000 60)) Try.eD2.K Try.eD2.args Try.eD2.heap Try.eD2.nx = some Try.eD2.out := by kernel_rfl
theorem Try.kD2 : EntOk Try.prog Try.eD2 := entOk_of_runQ Try.tmOk Try.tmMixed Try.ftOkD (l := []) .nil Try.rD2

def Try.eD3 : Ent := ⟨16, [.agg [.ref 73 1 0 2 none, .ref 68 5 0 1 none]],
 [(68, .arr 104 5 true [.agg [.int .i64 1, .int .i64 3, .int .i64 25, .int .i64 17, .str [120]]]),
  (73, .arr 53 1 true [.imm 0 [] 0, .imm 0 [] 0])], 89,
 { d := .tuple [.ref 136 1 0 2 none, .int .i64 0], vc := true, eff := [(136, some (.arr 9 1 true [.str [2, 1, 3, 17, 1, 120], .str [1, 1, 3, 25]]))], nw := (89, 137), met := [68, 73] }⟩
theorem Try.rD3 : runFQ (getLQ Try.ftLD) Try.ptD Try.tm 2000 (callKQ [] (callXQ (getLQ Try.ftLD) Try.ptD Try.tm 2000 60)) Try.eD3.K Try.eD3.args Try.eD3.heap Try.eD3.nx = some Try.eD3.out := by kernel_rfl
theorem Try.kD3 : EntOk Try.prog Try.eD3 := entOk_of_runQ Try.tmOk Try.tmMixed Try.ftOkD (l := []) .nil Try.rD3

def Try.eD4 : Ent := ⟨18, [.agg [.ref 73 1 0 2 none, .ref 68 5 0 1 none], .agg [.int .u8 1, .int .i64 1, .int .i64 3, .int .i64 24, .str []]],
 [(68, .arr 104 5 true [.agg [.int .i64 1, .int .i64 3, .int .i64 25, .int .i64 17, .str [120]]]),
  (73, .arr 53 1 true [.imm 0 [] 0, .imm 0 [] 0])], 304,
 { d := .tuple [.agg [.imm 0 [] 0, .imm 0 [] 0], .int .i64 70], vc := true, eff := [], nw := (304, 332), met := [68, 73] }⟩
theorem Try.rD4 : runFQ (getLQ Try.ftLD) Try.ptD Try.tm 2000 (callKQ [] (callXQ (getLQ Try.ftLD) Try.ptD Try.tm 2000 60)) Try.eD4.K Try.eD4.args Try.eD4.heap Try.eD4.nx = some Try.eD4.out := by kernel_rfl
theorem Try.kD4 : EntOk Try.prog Try.eD4 := entOk_of_runQ Try.tmOk Try.tmMixed Try.ftOkD (l := []) .nil Try.rD4

theorem Try.rDtop : saysTrue (runFQ (getLQ Try.ftLD) Try.ptD Try.tm 2000 (callKQ [Try.eD0, Try.eD1, Try.eD2, Try.eD3, Try.eD4] (callXQ (getLQ Try.ftLD) Try.ptD Try.tm 2000 60)) 4 [] [] 0) = true := by kernel_rfl
theorem Try.namesD : CallP Try.prog 4 [] (.bool true) := callP_knownQ Try.tmOk Try.tmMixed Try.ftOkD (l := [Try.eD0, Try.eD1, Try.eD2, Try.eD3, Try.eD4]) (.cons Try.kD0 (.cons Try.kD1 (.cons Try.kD2 (.cons Try.kD3 (.cons Try.kD4 .nil))))) Try.rDtop

end Go.Proofs

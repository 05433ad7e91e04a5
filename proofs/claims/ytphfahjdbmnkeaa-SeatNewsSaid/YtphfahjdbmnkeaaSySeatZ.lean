/- Contracts of calls over nothing, by reckoning. -/
import Derived.Test.YtphfahjdbmnkeaaTryFtZ
import Derived.Test.YtphfahjdbmnkeaaTmClosed
namespace Go.Proofs
open Go.Tm
set_option maxRecDepth 100000

def zatt : List D := [.int .u8 0, .int .i64 0, .imm 0 [] 0, .str [], .str [], .imm 0 [] 0, .imm 0 [] 0]
def zseat : D := .agg [.int .i64 0, .int .i64 0, .imm 0 [] 0, .imm 0 [] 0, .imm 0 [] 0, .imm 0 [] 0, .int .u8 0, .int .i64 0, .imm 0 [] 0, .str [], .str [], .imm 0 [] 0, .imm 0 [] 0, .imm 0 [] 0, .int .i64 0]

theorem z21 : CallP Try.prog 21 [.imm 0 [] 0, .imm 0 [] 0] (.bool true) := callP_closedQ (LF := 200) (n := 20) Try.tmOk Try.tmMixed Try.ftOkZ rfl rfl (by kernel_rfl)
theorem z22 : CallP Try.prog 22 [.imm 0 [] 0, .imm 0 [] 0] (.bool true) := callP_closedQ (LF := 200) (n := 20) Try.tmOk Try.tmMixed Try.ftOkZ rfl rfl (by kernel_rfl)
theorem z23 : CallP Try.prog 23 [.agg zatt, .agg zatt] (.bool true) := callP_closedQ (LF := 200) (n := 20) Try.tmOk Try.tmMixed Try.ftOkZ rfl rfl (by kernel_rfl)
theorem z35 : CallP Try.prog 35 [.imm 0 [] 0] (.imm 0 [] 0) := callP_closedQ (LF := 200) (n := 20) Try.tmOk Try.tmMixed Try.ftOkZ rfl rfl (by kernel_rfl)
theorem z36 : CallP Try.prog 36 [.imm 0 [] 0] (.imm 0 [] 0) := callP_closedQ (LF := 200) (n := 20) Try.tmOk Try.tmMixed Try.ftOkZ rfl rfl (by kernel_rfl)
theorem z37 : CallP Try.prog 37 [.agg zatt] (.agg zatt) := callP_closedQ (LF := 200) (n := 20) Try.tmOk Try.tmMixed Try.ftOkZ rfl rfl (by kernel_rfl)
theorem z8 : CallP Try.prog 8 [zseat, zseat] (.bool true) := callP_closedQ (LF := 200) (n := 20) Try.tmOk Try.tmMixed Try.ftOkZ rfl rfl (by kernel_rfl)
theorem z9 : CallP Try.prog 9 [zseat] (.tuple []) := callP_closedQ (LF := 200) (n := 20) Try.tmOk Try.tmMixed Try.ftOkZ rfl rfl (by kernel_rfl)
end Go.Proofs

/- The functions that this law runs, as a table; by program (genft.py). -/
import Derived.Test.YtphfahjdbmnkeaaTryTab
import Derived.Test.YtphfahjdbmnkeaaTmQuick
namespace Go.Proofs
open Go.Tm

def Try.ptLZ : List (Nat × List (Nat × List (Nat × Nat))) := [
  (21, [(6, [(0, 1), (0, 4), (1, 4), (2, 4), (3, 4), (0, 5), (1, 5), (2, 5), (3, 5), (4, 5), (0, 6), (1, 6), (2, 6), (3, 6), (0, 7), (1, 7), (2, 7), (3, 7)])]),
  (22, [(6, [(0, 1), (0, 4), (1, 4), (2, 4), (3, 4), (0, 5), (1, 5), (2, 5), (3, 5), (4, 5), (0, 6), (1, 6), (2, 6), (3, 6), (0, 7), (1, 7), (2, 7), (3, 7)])]),
  (23, [(6, [(0, 2), (1, 2), (0, 5), (1, 5), (2, 5), (3, 5), (4, 5), (0, 6), (1, 6), (2, 6), (3, 6), (4, 6), (0, 7), (1, 7), (2, 7), (3, 7), (4, 7), (5, 7), (6, 7), (0, 8), (1, 8), (2, 8), (3, 8), (4, 8), (0, 9), (1, 9), (2, 9), (3, 9), (4, 9)])]),
  (24, [(6, [(0, 1), (0, 4), (1, 4), (2, 4), (3, 4), (0, 5), (1, 5), (2, 5), (3, 5), (4, 5), (0, 6), (1, 6), (2, 6), (3, 6), (0, 7), (1, 7), (2, 7), (3, 7)])]),
  (37, [(1, [(0, 3), (1, 3), (2, 3), (0, 4), (1, 4), (2, 4), (0, 6), (1, 6), (2, 6), (3, 6), (4, 6), (5, 6), (0, 7), (1, 7), (2, 7), (3, 7), (4, 7), (5, 7), (5, 9), (8, 9)])]),
  (40, [(6, [(0, 1), (0, 4), (1, 4), (2, 4), (3, 4), (0, 5), (1, 5), (2, 5), (3, 5), (4, 5), (0, 6), (1, 6), (2, 6), (3, 6), (0, 7), (1, 7), (2, 7), (3, 7)])])]
noncomputable def Try.ptZ (K r : Nat) : List (Nat × Nat) := match getLQ Try.ptLZ K with | some l => (match getLQ l r with | some x => x | none => []) | none => []
noncomputable def Try.ftLZ : List (Nat × Func) := [(8, Try.f8), (9, Try.f9), (10, Try.f10), (21, Try.f21), (22, Try.f22), (23, Try.f23), (24, Try.f24), (34, Try.f34), (35, Try.f35), (36, Try.f36), (37, Try.f37), (40, Try.f40), (51, Try.f51)]
theorem Try.okZ_8 : bodyOk Try.f8 (Try.ptZ 8) = true := by kernel_rfl
theorem Try.okZ_9 : bodyOk Try.f9 (Try.ptZ 9) = true := by kernel_rfl
theorem Try.okZ_10 : bodyOk Try.f10 (Try.ptZ 10) = true := by kernel_rfl
theorem Try.okZ_21 : bodyOk Try.f21 (Try.ptZ 21) = true := by kernel_rfl
theorem Try.okZ_22 : bodyOk Try.f22 (Try.ptZ 22) = true := by kernel_rfl
theorem Try.okZ_23 : bodyOk Try.f23 (Try.ptZ 23) = true := by kernel_rfl
theorem Try.okZ_24 : bodyOk Try.f24 (Try.ptZ 24) = true := by kernel_rfl
theorem Try.okZ_34 : bodyOk Try.f34 (Try.ptZ 34) = true := by kernel_rfl
theorem Try.okZ_35 : bodyOk Try.f35 (Try.ptZ 35) = true := by kernel_rfl
theorem Try.okZ_36 : bodyOk Try.f36 (Try.ptZ 36) = true := by kernel_rfl
theorem Try.okZ_37 : bodyOk Try.f37 (Try.ptZ 37) = true := by kernel_rfl
theorem Try.okZ_40 : bodyOk Try.f40 (Try.ptZ 40) = true := by kernel_rfl
theorem Try.okZ_51 : bodyOk Try.f51 (Try.ptZ 51) = true := by kernel_rfl
theorem Try.ftOkZ : FtOk Try.prog (getLQ Try.ftLZ) Try.ptZ := FtL.okQ (FtL.cons Try.func8 (by decide) Try.okZ_8 (FtL.cons Try.func9 (by decide) Try.okZ_9 (FtL.cons Try.func10 (by decide) Try.okZ_10 (FtL.cons Try.func21 (by decide) Try.okZ_21 (FtL.cons Try.func22 (by decide) Try.okZ_22 (FtL.cons Try.func23 (by decide) Try.okZ_23 (FtL.cons Try.func24 (by decide) Try.okZ_24 (FtL.cons Try.func34 (by decide) Try.okZ_34 (FtL.cons Try.func35 (by decide) Try.okZ_35 (FtL.cons Try.func36 (by decide) Try.okZ_36 (FtL.cons Try.func37 (by decide) Try.okZ_37 (FtL.cons Try.func40 (by decide) Try.okZ_40 (FtL.cons Try.func51 (by decide) Try.okZ_51 FtL.nil)))))))))))))
end Go.Proofs

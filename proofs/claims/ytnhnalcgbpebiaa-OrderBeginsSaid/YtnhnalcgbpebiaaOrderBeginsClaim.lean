/- The law OrderBegins of chapter 16 (what a beginning of a log delivers begins what all of it delivers, and its times do) answers true at every call: each function that it reaches is shown to answer as a plain model of it, and of the models it is shown in plain Lean. Conditions: none beyond the given row's. -/
import Derived.Test.YtnhnalcgbpebiaaRows
import Derived.WalkKit
import Derived.ProofKit
import Derived.OpenShut
import Derived.Test.YtnhnalcgbpebiaaOrderBeginsPn
namespace Go.Proofs.Ytnhnalcgbpebiaa.orderBegins
open Go.ChangeShapes Go.WideShapes Go.RowKit Go.Tm
set_option maxRecDepth 100000
theorem over : Rows.orderBeginsRow.holds Try.pinned (OpenSpec.ofChange Rows.orderBeginsSpec) :=
  OpenClaim.holds_of_wide 12 Try.f12 rfl rfl rfl rfl rfl rfl rfl ⟨rfl, rfl, rfl, rfl, rfl⟩ rfl rfl rfl rfl rfl (by kernel_rfl) Try.func12 (by kernel_rfl)
    (of_decide_eq_true (by kernel_rfl)) (by unfold Func.isWrapper; first | (rw [if_pos (by decide +kernel)]; kernel_rfl) | (rw [if_neg (by decide +kernel)]; exact ⟨rfl, rfl⟩))
    (fun os started H enc _ => lifted os started H enc)

theorem proved : Rows.OrderBeginsSaid := over
#print axioms proved
end Go.Proofs.Ytnhnalcgbpebiaa.orderBegins

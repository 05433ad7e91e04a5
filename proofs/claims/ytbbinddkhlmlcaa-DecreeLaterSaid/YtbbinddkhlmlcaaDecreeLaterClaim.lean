/- The law DecreeLater of chapter 9 (once something is chosen, whoever begins again and gets a majority tells it) answers true at every call: each function that it reaches is shown to answer as a plain model of it, and of the models it is shown in plain Lean: by the history of who accepted what and what was told, where the new ballot is the greater one; where it is not, a majority has passed it by. Conditions: none beyond the given row's. -/
import Derived.Test.YtbbinddkhlmlcaaRows
import Derived.WalkKit
import Derived.ProofKit
import Derived.OpenShut
import Derived.Test.YtbbinddkhlmlcaaDecreeLaterPo
namespace Go.Proofs.Ytbbinddkhlmlcaa.decreeLater
open Go.ChangeShapes Go.WideShapes Go.RowKit Go.Tm
set_option maxRecDepth 100000
theorem over : Rows.decreeLaterRow.holds Try.pinned (OpenSpec.ofChange Rows.decreeLaterSpec) :=
 OpenClaim.holds_of_wide 4 Try.f4 rfl rfl rfl rfl rfl rfl rfl ⟨rfl, rfl, rfl, rfl, rfl⟩ rfl rfl rfl rfl rfl (by kernel_rfl) Try.func4 (by kernel_rfl)
  (of_decide_eq_true (by kernel_rfl)) (by unfold Func.isWrapper; first | (rw [if_pos (by decide +kernel)]; kernel_rfl) | (rw [if_neg (by decide +kernel)]; exact ⟨rfl, rfl⟩))
  (fun os started H enc _ => lifted os started H enc)

theorem proved : Rows.DecreeLaterSaid := over
#print axioms proved
end Go.Proofs.Ytbbinddkhlmlcaa.decreeLater

/- The law DecreeOne of chapter 9 (all that is found chosen is one value, and it was somebody's wish) answers true at every call: each function that it reaches is shown to answer as a plain model of it, and of the models it is shown in plain Lean, by the history of who accepted what and what was told. Conditions: none beyond the given row's. -/
import Derived.Test.YtbbinddkhlmlcaaRows
import Derived.WalkKit
import Derived.ProofKit
import Derived.OpenShut
import Derived.Test.YtbbinddkhlmlcaaDecreeOnePn
namespace Go.Proofs.Ytbbinddkhlmlcaa.decreeOne
open Go.ChangeShapes Go.WideShapes Go.RowKit Go.Tm
set_option maxRecDepth 100000
theorem over : Rows.decreeOneRow.holds Try.pinned (OpenSpec.ofChange Rows.decreeOneSpec) :=
  OpenClaim.holds_of_wide 3 Try.f3 rfl rfl rfl rfl rfl rfl rfl ⟨rfl, rfl, rfl, rfl, rfl⟩ rfl rfl rfl rfl rfl (by kernel_rfl) Try.func3 (by kernel_rfl)
    (of_decide_eq_true (by kernel_rfl)) (by unfold Func.isWrapper; first | (rw [if_pos (by decide +kernel)]; kernel_rfl) | (rw [if_neg (by decide +kernel)]; exact ⟨rfl, rfl⟩))
    (fun os started H enc _ => lifted os started H enc)

theorem proved : Rows.DecreeOneSaid := over
#print axioms proved
end Go.Proofs.Ytbbinddkhlmlcaa.decreeOne

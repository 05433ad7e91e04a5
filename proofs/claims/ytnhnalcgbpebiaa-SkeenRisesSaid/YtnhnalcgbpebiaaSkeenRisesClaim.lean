/- The law SkeenRises of chapter 15 (whatever commands, all that is delivered rises by time and id, none twice) answers true at every call: each function that it reaches is shown to answer as a plain model of it, and of the models it is shown in plain Lean. Conditions: none beyond the given row's. -/
import Derived.Test.YtnhnalcgbpebiaaRows
import Derived.WalkKit
import Derived.ProofKit
import Derived.OpenShut
import Derived.Test.YtnhnalcgbpebiaaSkeenRisesPm
namespace Go.Proofs.Ytnhnalcgbpebiaa.skeenRises
open Go.ChangeShapes Go.WideShapes Go.RowKit Go.Tm
set_option maxRecDepth 100000
theorem over : Rows.skeenRisesRow.holds Try.pinned (OpenSpec.ofChange Rows.skeenRisesSpec) :=
  OpenClaim.holds_of_wide 10 Try.f10 rfl rfl rfl rfl rfl rfl rfl ⟨rfl, rfl, rfl, rfl, rfl⟩ rfl rfl rfl rfl rfl (by kernel_rfl) Try.func10 (by kernel_rfl)
    (of_decide_eq_true (by kernel_rfl)) (by unfold Func.isWrapper; first | (rw [if_pos (by decide +kernel)]; kernel_rfl) | (rw [if_neg (by decide +kernel)]; exact ⟨rfl, rfl⟩))
    (fun os started H enc _ => lifted os started H enc)

theorem proved : Rows.SkeenRisesSaid := over
#print axioms proved
end Go.Proofs.Ytnhnalcgbpebiaa.skeenRises

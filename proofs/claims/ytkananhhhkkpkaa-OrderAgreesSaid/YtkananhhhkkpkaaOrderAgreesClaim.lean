/- The law OrderAgrees of chapter 16 (of honest logs the deliveries of any two groups agree, without a gap) answers true at every call: each function that it reaches is shown to answer as a plain model of it, and of the models it is shown in plain Lean. Conditions: none beyond the given row's. -/
import Derived.Test.YtkananhhhkkpkaaRows
import Derived.WalkKit
import Derived.ProofKit
import Derived.OpenShut
import Derived.Test.YtkananhhhkkpkaaOrderAgreesPo
namespace Go.Proofs.Ytkananhhhkkpkaa.orderAgrees
open Go.ChangeShapes Go.WideShapes Go.RowKit Go.Tm
set_option maxRecDepth 100000
theorem over : Rows.orderAgreesRow.holds Try.pinned (OpenSpec.ofChange Rows.orderAgreesSpec) :=
 OpenClaim.holds_of_wide 4 Try.f4 rfl rfl rfl rfl rfl rfl rfl ⟨rfl, rfl, rfl, rfl, rfl⟩ rfl rfl rfl rfl rfl (by kernel_rfl) Try.func4 (by kernel_rfl)
  (of_decide_eq_true (by kernel_rfl)) (by unfold Func.isWrapper; first | (rw [if_pos (by decide +kernel)]; kernel_rfl) | (rw [if_neg (by decide +kernel)]; exact ⟨rfl, rfl⟩))
  (fun os started H enc _ => lifted os started H enc)

theorem proved : Rows.OrderAgreesSaid := over
#print axioms proved
end Go.Proofs.Ytkananhhhkkpkaa.orderAgrees

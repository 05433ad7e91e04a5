/- The law OrderFinal of chapter 16 (a final time is the greatest of all groups' times, and a final command of it leaves honest logs honest) answers true at every call: each function that it reaches is shown to answer as a plain model of it, and of the models it is shown in plain Lean. Conditions: none beyond the given row's. -/
import Derived.Test.YtkananhhhkkpkaaRows
import Derived.WalkKit
import Derived.ProofKit
import Derived.OpenShut
import Derived.Test.YtkananhhhkkpkaaOrderFinalPp
namespace Go.Proofs.Ytkananhhhkkpkaa.orderFinal
open Go.ChangeShapes Go.WideShapes Go.RowKit Go.Tm
set_option maxRecDepth 100000
theorem over : Rows.orderFinalRow.holds Try.pinned (OpenSpec.ofChange Rows.orderFinalSpec) :=
 OpenClaim.holds_of_wide 3 Try.f3 rfl rfl rfl rfl rfl rfl rfl ⟨rfl, rfl, rfl, rfl, rfl⟩ rfl rfl rfl rfl rfl (by kernel_rfl) Try.func3 (by kernel_rfl)
  (of_decide_eq_true (by kernel_rfl)) (by unfold Func.isWrapper; first | (rw [if_pos (by decide +kernel)]; kernel_rfl) | (rw [if_neg (by decide +kernel)]; exact ⟨rfl, rfl⟩))
  (fun os started H enc _ => lifted os started H enc)

theorem proved : Rows.OrderFinalSaid := over
#print axioms proved
end Go.Proofs.Ytkananhhhkkpkaa.orderFinal

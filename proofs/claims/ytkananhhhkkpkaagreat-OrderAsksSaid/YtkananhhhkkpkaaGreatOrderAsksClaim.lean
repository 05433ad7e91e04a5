/- The law OrderAsks of chapter 16 (final times are told, and logs' honesty, and whether orders agree, as the document says) answers true at every call: each function that it reaches is shown to answer as a plain model of it, and of the models it is shown in plain Lean. Conditions: none beyond the given row's. -/
import Derived.Test.YtkananhhhkkpkaaGreatRows
import Derived.WalkKit
import Derived.ProofKit
import Derived.OpenShut
import Derived.Test.YtkananhhhkkpkaaGreatOrderAsksPn
namespace Go.Proofs.YtkananhhhkkpkaaGreat.orderAsks
open Go.ChangeShapes Go.WideShapes Go.RowKit Go.Tm
set_option maxRecDepth 100000
theorem over : Rows.orderAsksRow.holds Tryz.pinned (OpenSpec.ofChange Rows.orderAsksSpec) :=
 OpenClaim.holds_of_wide 4 Tryz.f4 rfl rfl rfl rfl rfl rfl rfl ⟨rfl, rfl, rfl, rfl, rfl⟩ rfl rfl rfl rfl rfl (by kernel_rfl) Tryz.func4 (by kernel_rfl)
  (of_decide_eq_true (by kernel_rfl)) (by unfold Func.isWrapper; first | (rw [if_pos (by decide +kernel)]; kernel_rfl) | (rw [if_neg (by decide +kernel)]; exact ⟨rfl, rfl⟩))
  (fun os started H enc _ => lifted os started H enc)

theorem proved : Rows.OrderAsksSaid := over
#print axioms proved
end Go.Proofs.YtkananhhhkkpkaaGreat.orderAsks

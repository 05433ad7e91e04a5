/- StableOn answers true: what some texts make, and then others' records, is what all texts make. Conditions: none beyond the given row's. -/
import Derived.Test.YtkfipajabmhkbaaRows
import Derived.WalkKit
import Derived.ProofKit
import Derived.OpenShut
import Derived.Test.YtkfipajabmhkbaaStableOnPl
namespace Go.Proofs.Ytkfipajabmhkbaa.stableOn
open Go.ChangeShapes Go.WideShapes Go.RowKit Go.Tm
set_option maxRecDepth 100000
theorem over : Rows.stableOnRow.holds Try.pinned (OpenSpec.ofChange Rows.stableOnSpec) :=
 OpenClaim.holds_of_wide 6 Try.f6 rfl rfl rfl rfl rfl rfl rfl ⟨rfl, rfl, rfl, rfl, rfl⟩ rfl rfl rfl rfl rfl (by kernel_rfl) Try.func6 (by kernel_rfl)
  (of_decide_eq_true (by kernel_rfl)) (by unfold Func.isWrapper; first | (rw [if_pos (by decide +kernel)]; kernel_rfl) | (rw [if_neg (by decide +kernel)]; exact ⟨rfl, rfl⟩))
  (fun os started H enc _ => lifted os started H enc)

theorem proved : Rows.StableOnSaid := over
#print axioms proved
end Go.Proofs.Ytkfipajabmhkbaa.stableOn

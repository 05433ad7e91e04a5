/- StableReplays answers true: it begins, records' texts make it, and its shortest records are, as the document says; what was given stays. Conditions: none beyond the given row's. -/
import Derived.Test.YtkfipajabmhkbaaRows
import Derived.WalkKit
import Derived.ProofKit
import Derived.OpenShut
import Derived.Test.YtkfipajabmhkbaaStableReplaysPn
namespace Go.Proofs.Ytkfipajabmhkbaa.stableReplays
open Go.ChangeShapes Go.WideShapes Go.RowKit Go.Tm
set_option maxRecDepth 100000
theorem over : Rows.stableReplaysRow.holds Try.pinned (OpenSpec.ofChange Rows.stableReplaysSpec) :=
 OpenClaim.holds_of_wide 5 Try.f5 rfl rfl rfl rfl rfl rfl rfl ⟨rfl, rfl, rfl, rfl, rfl⟩ rfl rfl rfl rfl rfl (by kernel_rfl) Try.func5 (by kernel_rfl)
  (of_decide_eq_true (by kernel_rfl)) (by unfold Func.isWrapper; first | (rw [if_pos (by decide +kernel)]; kernel_rfl) | (rw [if_neg (by decide +kernel)]; exact ⟨rfl, rfl⟩))
  (fun os started H enc _ => lifted os started H enc)

theorem proved : Rows.StableReplaysSaid := over
#print axioms proved
end Go.Proofs.Ytkfipajabmhkbaa.stableReplays

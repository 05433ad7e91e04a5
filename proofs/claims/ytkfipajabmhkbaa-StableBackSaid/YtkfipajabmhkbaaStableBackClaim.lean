/- StableBack answers true: what the shortest records make is the same, and there are at most two for each vote and one for each value. Conditions: none beyond the given row's. -/
import Derived.Test.YtkfipajabmhkbaaRows
import Derived.WalkKit
import Derived.ProofKit
import Derived.OpenShut
import Derived.Test.YtkfipajabmhkbaaStableBackPl
namespace Go.Proofs.Ytkfipajabmhkbaa.stableBack
open Go.ChangeShapes Go.WideShapes Go.RowKit Go.Tm
set_option maxRecDepth 100000
theorem over : Rows.stableBackRow.holds Try.pinned (OpenSpec.ofChange Rows.stableBackSpec) :=
 OpenClaim.holds_of_wide 7 Try.f7 rfl rfl rfl rfl rfl rfl rfl ⟨rfl, rfl, rfl, rfl, rfl⟩ rfl rfl rfl rfl rfl (by kernel_rfl) Try.func7 (by kernel_rfl)
  (of_decide_eq_true (by kernel_rfl)) (by unfold Func.isWrapper; first | (rw [if_pos (by decide +kernel)]; kernel_rfl) | (rw [if_neg (by decide +kernel)]; exact ⟨rfl, rfl⟩))
  (fun os started H enc _ => lifted os started H enc)

theorem proved : Rows.StableBackSaid := over
#print axioms proved
end Go.Proofs.Ytkfipajabmhkbaa.stableBack

/- StableGoes answers true: what a record leaves may be, logs never get shorter, what stands in them stays, and votes never fall but where their slot is decided. Conditions: none beyond the given row's. -/
import Derived.Test.YtkfipajabmhkbaaRows
import Derived.WalkKit
import Derived.ProofKit
import Derived.OpenShut
import Derived.Test.YtkfipajabmhkbaaStableGoesPk
namespace Go.Proofs.Ytkfipajabmhkbaa.stableGoes
open Go.ChangeShapes Go.WideShapes Go.RowKit Go.Tm
set_option maxRecDepth 100000
theorem over : Rows.stableGoesRow.holds Try.pinned (OpenSpec.ofChange Rows.stableGoesSpec) :=
 OpenClaim.holds_of_wide 3 Try.f3 rfl rfl rfl rfl rfl rfl rfl ⟨rfl, rfl, rfl, rfl, rfl⟩ rfl rfl rfl rfl rfl (by kernel_rfl) Try.func3 (by kernel_rfl)
  (of_decide_eq_true (by kernel_rfl)) (by unfold Func.isWrapper; first | (rw [if_pos (by decide +kernel)]; kernel_rfl) | (rw [if_neg (by decide +kernel)]; exact ⟨rfl, rfl⟩))
  (fun os started H enc _ => lifted os started H enc)

theorem proved : Rows.StableGoesSaid := over
#print axioms proved
end Go.Proofs.Ytkfipajabmhkbaa.stableGoes

/- StableDoes answers true: what records make is checked, compared, copied, told, and records are done, as the document says; what is answered is new memory. Conditions: none beyond the given row's. -/
import Derived.Test.YtkfipajabmhkbaaRows
import Derived.WalkKit
import Derived.ProofKit
import Derived.OpenShut
import Derived.Test.YtkfipajabmhkbaaStableDoesPm
namespace Go.Proofs.Ytkfipajabmhkbaa.stableDoes
open Go.ChangeShapes Go.WideShapes Go.RowKit Go.Tm
set_option maxRecDepth 100000
theorem over : Rows.stableDoesRow.holds Try.pinned (OpenSpec.ofChange Rows.stableDoesSpec) :=
 OpenClaim.holds_of_wide 4 Try.f4 rfl rfl rfl rfl rfl rfl rfl ⟨rfl, rfl, rfl, rfl, rfl⟩ rfl rfl rfl rfl rfl (by kernel_rfl) Try.func4 (by kernel_rfl)
  (of_decide_eq_true (by kernel_rfl)) (by unfold Func.isWrapper; first | (rw [if_pos (by decide +kernel)]; kernel_rfl) | (rw [if_neg (by decide +kernel)]; exact ⟨rfl, rfl⟩))
  (fun os started H enc _ => lifted os started H enc)

theorem proved : Rows.StableDoesSaid := over
#print axioms proved
end Go.Proofs.Ytkfipajabmhkbaa.stableDoes

/- DecreeMoves (towncrierlaw09): worlds are checked, compared, copied, and move as the document says, for every two worlds and move; they stay, and what is answered is new memory. Conditions: none beyond the given row's. -/
import Derived.Test.YtdoegejmepcmpaaGreatRows
import Derived.WalkKit
import Derived.ProofKit
import Derived.OpenShut
import Derived.Test.YtdoegejmepcmpaaGreatDecreeMovesPr
namespace Go.Proofs.YtdoegejmepcmpaaGreat.decreeMoves
open Go.ChangeShapes Go.WideShapes Go.RowKit Go.Tm
set_option maxRecDepth 100000
theorem over : Rows.decreeMovesRow.holds Tryz.pinned (OpenSpec.ofChange Rows.decreeMovesSpec) :=
 OpenClaim.holds_of_wide 3 Tryz.f3 rfl rfl rfl rfl rfl rfl rfl ⟨rfl, rfl, rfl, rfl, rfl⟩ rfl rfl rfl rfl rfl (by kernel_rfl) Tryz.func3 (by kernel_rfl)
  (of_decide_eq_true (by kernel_rfl)) (by unfold Func.isWrapper; first | (rw [if_pos (by decide +kernel)]; kernel_rfl) | (rw [if_neg (by decide +kernel)]; exact ⟨rfl, rfl⟩))
  (fun os started H enc _ => lifted os started H enc)

theorem proved : Rows.DecreeMovesSaid := over
#print axioms proved
end Go.Proofs.YtdoegejmepcmpaaGreat.decreeMoves

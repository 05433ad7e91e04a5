/- SkeenDoes (towncrierlaw15): clocks are checked, compared, copied, told, and commands are done as the document says, for every two clocks, group, command and id; they stay, and what is answered is new memory. Conditions: none beyond the given row's. -/
import Derived.Test.YtdoegejmepcmpaaRows
import Derived.WalkKit
import Derived.ProofKit
import Derived.OpenShut
import Derived.Test.YtdoegejmepcmpaaSkeenDoesPm
namespace Go.Proofs.Ytdoegejmepcmpaa.skeenDoes
open Go.ChangeShapes Go.WideShapes Go.RowKit Go.Tm
set_option maxRecDepth 100000
theorem over : Rows.skeenDoesRow.holds Try.pinned (OpenSpec.ofChange Rows.skeenDoesSpec) :=
 OpenClaim.holds_of_wide 3 Try.f3 rfl rfl rfl rfl rfl rfl rfl ⟨rfl, rfl, rfl, rfl, rfl⟩ rfl rfl rfl rfl rfl (by kernel_rfl) Try.func3 (by kernel_rfl)
  (of_decide_eq_true (by kernel_rfl)) (by unfold Func.isWrapper; first | (rw [if_pos (by decide +kernel)]; kernel_rfl) | (rw [if_neg (by decide +kernel)]; exact ⟨rfl, rfl⟩))
  (fun os started H enc _ => lifted os started H enc)

theorem proved : Rows.SkeenDoesSaid := over
#print axioms proved
end Go.Proofs.Ytdoegejmepcmpaa.skeenDoes

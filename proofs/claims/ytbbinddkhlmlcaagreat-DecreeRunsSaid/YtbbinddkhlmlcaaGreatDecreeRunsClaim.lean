/- The law DecreeRuns of chapter 9 (a new world and a run are the reference's, move by move, and leave what they are given) answers true at every call: each function that it reaches, the reference's with it, is shown to answer as a plain model of it, and of the models it is shown in plain Lean that both make the same world of a world that may be, move by move, where ballots stay in the range in which the reference reckons alike. Conditions: none beyond the given row's. Conditions: none beyond the given row's. -/
import Derived.Test.YtbbinddkhlmlcaaGreatRows
import Derived.WalkKit
import Derived.ProofKit
import Derived.OpenShut
import Derived.Test.YtbbinddkhlmlcaaGreatDecreeRunsPp
namespace Go.Proofs.YtbbinddkhlmlcaaGreat.decreeRuns
open Go.ChangeShapes Go.WideShapes Go.RowKit Go.Tm
set_option maxRecDepth 100000
theorem over : Rows.decreeRunsRow.holds Tryz.pinned (OpenSpec.ofChange Rows.decreeRunsSpec) :=
 OpenClaim.holds_of_wide 4 Tryz.f4 rfl rfl rfl rfl rfl rfl rfl ⟨rfl, rfl, rfl, rfl, rfl⟩ rfl rfl rfl rfl rfl (by kernel_rfl) Tryz.func4 (by kernel_rfl)
  (of_decide_eq_true (by kernel_rfl)) (by unfold Func.isWrapper; first | (rw [if_pos (by decide +kernel)]; kernel_rfl) | (rw [if_neg (by decide +kernel)]; exact ⟨rfl, rfl⟩))
  (fun os started H enc _ => lifted os started H enc)

theorem proved : Rows.DecreeRunsSaid := over
#print axioms proved
end Go.Proofs.YtbbinddkhlmlcaaGreat.decreeRuns

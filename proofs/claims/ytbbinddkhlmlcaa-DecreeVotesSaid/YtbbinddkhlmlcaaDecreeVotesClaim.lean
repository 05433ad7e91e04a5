/- The law DecreeVotes of chapter 9 (no move lets what a node promised, or accepted, fall, and a move turns at most one node's vote) answers true at every call: each function that it reaches is shown to answer as a plain model of it, and of the models it is shown in plain Lean. Conditions: none beyond the given row's. -/
import Derived.Test.YtbbinddkhlmlcaaRows
import Derived.WalkKit
import Derived.ProofKit
import Derived.OpenShut
import Derived.Test.YtbbinddkhlmlcaaDecreeVotesPn
namespace Go.Proofs.Ytbbinddkhlmlcaa.decreeVotes
open Go.ChangeShapes Go.WideShapes Go.RowKit Go.Tm
set_option maxRecDepth 100000
theorem over : Rows.decreeVotesRow.holds Try.pinned (OpenSpec.ofChange Rows.decreeVotesSpec) :=
  OpenClaim.holds_of_wide 5 Try.f5 rfl rfl rfl rfl rfl rfl rfl ⟨rfl, rfl, rfl, rfl, rfl⟩ rfl rfl rfl rfl rfl (by kernel_rfl) Try.func5 (by kernel_rfl)
    (of_decide_eq_true (by kernel_rfl)) (by unfold Func.isWrapper; first | (rw [if_pos (by decide +kernel)]; kernel_rfl) | (rw [if_neg (by decide +kernel)]; exact ⟨rfl, rfl⟩))
    (fun os started H enc _ => lifted os started H enc)

theorem proved : Rows.DecreeVotesSaid := over
#print axioms proved
end Go.Proofs.Ytbbinddkhlmlcaa.decreeVotes

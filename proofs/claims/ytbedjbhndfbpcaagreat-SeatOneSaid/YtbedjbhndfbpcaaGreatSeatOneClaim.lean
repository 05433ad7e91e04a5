/- Whatever the seats of one group do, whatever mail is lost, doubled or late, and whoever falls down and comes up again: of any two logs one begins the other, and each value in them was somebody's wish (the law towncrierlaw25.SeatOne answers true at every input, which reads behind the call as it did). Conditions: none beyond the given row's. -/
import Derived.Test.YtbedjbhndfbpcaaGreatRows
import Derived.WalkKit
import Derived.ProofKit
import Derived.OpenShut
import Derived.Test.YtbedjbhndfbpcaaGreatSeatOnePzk
namespace Go.Proofs.YtbedjbhndfbpcaaGreat.seatOne
open Go.ChangeShapes Go.WideShapes Go.RowKit Go.Tm
set_option maxRecDepth 100000
theorem over : Rows.seatOneRow.holds Tryz.pinned (OpenSpec.ofChange Rows.seatOneSpec) :=
 OpenClaim.holds_of_wide 3 Tryz.f3 rfl rfl rfl rfl rfl rfl rfl ⟨rfl, rfl, rfl, rfl, rfl⟩ rfl rfl rfl rfl rfl (by kernel_rfl) Tryz.func3 (by kernel_rfl)
  (of_decide_eq_true (by kernel_rfl)) (by unfold Func.isWrapper; first | (rw [if_pos (by decide +kernel)]; kernel_rfl) | (rw [if_neg (by decide +kernel)]; exact ⟨rfl, rfl⟩))
  (fun os started H enc _ => lifted os started H enc)

theorem proved : Rows.SeatOneSaid := over
#print axioms proved
end Go.Proofs.YtbedjbhndfbpcaaGreat.seatOne

/- The law OrderNames of chapter 16 (the numbers of the limits and errors, and the chapter's examples) answers true at every call: it takes no argument, so its one run is reckoned, step by step, by a sound evaluator over the model. Conditions: none beyond the given row's. -/
import Derived.Test.YtinlknpgmelicaaRows
import Derived.Test.YtinlknpgmelicaaTryKnE0
import Derived.WalkKit
import Derived.ProofKit
import Derived.OpenShut
namespace Go.Proofs.Ytinlknpgmelicaa.orderNames
open Go.ChangeShapes Go.WideShapes Go.RowKit Go.Tm
theorem own : ownKnob Try.prog.godebug = none := by kernel_rfl

set_option maxRecDepth 100000 in
theorem lifted (os : Os) (started : os.Started) (H : Type) (enc : TypeId × Value → H) :
    ReturnsInHanded {} Try.checked os 5 .any (Rows.orderNamesSpec.pre6 enc Try.prog Try.f5 Rows.orderNamesRow.domain false) (Rows.orderNamesSpec.post enc Try.prog Try.f5 false true false false) := by
  refine returnsInHanded_of_change (C := Try.checked) own started (by kernel_rfl) Try.func5
    (ChangeSpec.witness6 (enc := enc) (C := Try.checked) false ⟨#[], #[], []⟩ 8 (by kernel_rfl) (by kernel_rfl) (by kernel_rfl) (by kernel_rfl)) ?_
  intro W base args ds gs before hval hW _ _
  exact law_zero (K := 5) (tb := 4) (by kernel_rfl) rfl rfl Try.underlying4 rfl Try.namesE hW

theorem over : Rows.orderNamesRow.holds Try.pinned (OpenSpec.ofChange Rows.orderNamesSpec) :=
  OpenClaim.holds_of_wide 5 Try.f5 rfl rfl rfl rfl rfl rfl rfl ⟨rfl, rfl, rfl, rfl, rfl⟩ rfl rfl rfl rfl rfl (by kernel_rfl) Try.func5 (by kernel_rfl)
    (of_decide_eq_true (by kernel_rfl)) (by unfold Func.isWrapper; first | (rw [if_pos (by decide +kernel)]; kernel_rfl) | (rw [if_neg (by decide +kernel)]; exact ⟨rfl, rfl⟩))
    (fun os started H enc _ => lifted os started H enc)

theorem proved : Rows.OrderNamesSaid := over
#print axioms proved
end Go.Proofs.Ytinlknpgmelicaa.orderNames

/- The law ClientNames of chapter 29 (the limits and errors have their numbers; examples) answers true at every call: it takes no argument, so its one run is reckoned, step by step, by a sound evaluator over the model. Conditions: none beyond the given row's. -/
import Derived.Test.YtggdmadjpakkbaaGreatRows
import Derived.WalkKit
import Derived.ProofKit
import Derived.OpenShut
import Derived.Test.YtggdmadjpakkbaaGreatClientNamesPl
namespace Go.Proofs.YtggdmadjpakkbaaGreat.clientNames
open Go.ChangeShapes Go.WideShapes Go.RowKit Go.Tm
theorem own : ownKnob Tryz.prog.godebug = none := by kernel_rfl

set_option maxRecDepth 100000 in
theorem lifted (os : Os) (started : os.Started) (H : Type) (enc : TypeId × Value → H) :
    ReturnsInHanded {} Tryz.checked os 5 .any (Rows.clientNamesSpec.pre6 enc Tryz.prog Tryz.f5 Rows.clientNamesRow.domain false) (Rows.clientNamesSpec.post enc Tryz.prog Tryz.f5 false true false false) := by
  refine returnsInHanded_of_change (C := Tryz.checked) own started (by kernel_rfl) Tryz.func5
    (ChangeSpec.witness6 (enc := enc) (C := Tryz.checked) false ⟨#[], #[], []⟩ 8 (by kernel_rfl) (by kernel_rfl) (by kernel_rfl) (by kernel_rfl)) ?_
  intro W base args ds gs before hval hW _ _
  exact law_zero (K := 5) (tb := 4) (by kernel_rfl) rfl rfl Tryz.underlying4 rfl Tryz.namesI hW

set_option maxRecDepth 100000
theorem j1 : (Rows.clientNamesRow.inPlace == Tryz.prog.inPlace 5) = true := by kernel_rfl
theorem j2 : (Rows.clientNamesRow.unfollowed == Tryz.prog.unfollowed 5) = true := by kernel_rfl
theorem j3 : (Rows.clientNamesRow.recurses == Tryz.prog.recurses 5) = true := by kernel_rfl
theorem j4 : (Rows.clientNamesRow.named == Tryz.prog.varsNamed 5) = true := by kernel_rfl
theorem joined : joinedFacts Tryz.prog 5 Tryz.f5 Rows.clientNamesSpec Rows.clientNamesRow = true := by
  unfold joinedFacts
  rw [j1, j2, j3, j4]
  kernel_rfl

theorem over : Rows.clientNamesRow.holds Tryz.pinned (OpenSpec.ofChange Rows.clientNamesSpec) :=
  OpenClaim.holds_of_wide 5 Tryz.f5 rfl rfl rfl rfl rfl rfl rfl ⟨rfl, rfl, rfl, rfl, rfl⟩ rfl rfl rfl rfl rfl (by kernel_rfl) Tryz.func5 joined
    (of_decide_eq_true (by kernel_rfl)) (by unfold Func.isWrapper; first | (rw [if_pos (by decide +kernel)]; kernel_rfl) | (rw [if_neg (by decide +kernel)]; exact ⟨rfl, rfl⟩))
    (fun os started H enc _ => lifted os started H enc)

theorem proved : Rows.ClientNamesSaid := over
#print axioms proved
end Go.Proofs.YtggdmadjpakkbaaGreat.clientNames

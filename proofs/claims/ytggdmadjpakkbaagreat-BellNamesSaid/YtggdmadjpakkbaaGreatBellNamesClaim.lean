/- The law BellNames of chapter 26 (the errors have their numbers; examples) answers true at every call: it takes no argument, so its one run is reckoned, step by step, by a sound evaluator over the model. Conditions: none beyond the given row's. -/
import Derived.Test.YtggdmadjpakkbaaGreatRows
import Derived.WalkKit
import Derived.ProofKit
import Derived.OpenShut
import Derived.Test.YtggdmadjpakkbaaGreatBellNamesPi
namespace Go.Proofs.YtggdmadjpakkbaaGreat.bellNames
open Go.ChangeShapes Go.WideShapes Go.RowKit Go.Tm
theorem own : ownKnob Tryz.prog.godebug = none := by kernel_rfl

set_option maxRecDepth 100000 in
theorem lifted (os : Os) (started : os.Started) (H : Type) (enc : TypeId × Value → H) :
    ReturnsInHanded {} Tryz.checked os 3 .any (Rows.bellNamesSpec.pre6 enc Tryz.prog Tryz.f3 Rows.bellNamesRow.domain false) (Rows.bellNamesSpec.post enc Tryz.prog Tryz.f3 false true false false) := by
  refine returnsInHanded_of_change (C := Tryz.checked) own started (by kernel_rfl) Tryz.func3
    (ChangeSpec.witness6 (enc := enc) (C := Tryz.checked) false ⟨#[], #[], []⟩ 8 (by kernel_rfl) (by kernel_rfl) (by kernel_rfl) (by kernel_rfl)) ?_
  intro W base args ds gs before hval hW _ _
  exact law_zero (K := 3) (tb := 4) (by kernel_rfl) rfl rfl Tryz.underlying4 rfl Tryz.namesB hW

set_option maxRecDepth 100000
theorem j1 : (Rows.bellNamesRow.inPlace == Tryz.prog.inPlace 3) = true := by kernel_rfl
theorem j2 : (Rows.bellNamesRow.unfollowed == Tryz.prog.unfollowed 3) = true := by kernel_rfl
theorem j3 : (Rows.bellNamesRow.recurses == Tryz.prog.recurses 3) = true := by kernel_rfl
theorem j4 : (Rows.bellNamesRow.named == Tryz.prog.varsNamed 3) = true := by kernel_rfl
theorem joined : joinedFacts Tryz.prog 3 Tryz.f3 Rows.bellNamesSpec Rows.bellNamesRow = true := by
  unfold joinedFacts
  rw [j1, j2, j3, j4]
  kernel_rfl

theorem over : Rows.bellNamesRow.holds Tryz.pinned (OpenSpec.ofChange Rows.bellNamesSpec) :=
  OpenClaim.holds_of_wide 3 Tryz.f3 rfl rfl rfl rfl rfl rfl rfl ⟨rfl, rfl, rfl, rfl, rfl⟩ rfl rfl rfl rfl rfl (by kernel_rfl) Tryz.func3 joined
    (of_decide_eq_true (by kernel_rfl)) (by unfold Func.isWrapper; first | (rw [if_pos (by decide +kernel)]; kernel_rfl) | (rw [if_neg (by decide +kernel)]; exact ⟨rfl, rfl⟩))
    (fun os started H enc _ => lifted os started H enc)

theorem proved : Rows.BellNamesSaid := over
#print axioms proved
end Go.Proofs.YtggdmadjpakkbaaGreat.bellNames

/- The law FairNames of chapter 31 (the errors have their numbers; examples) answers true at every call: it takes no argument, so its one run is reckoned, step by step, by a sound evaluator over the model. Conditions: none beyond the given row's. -/
import Derived.Test.YtggdmadjpakkbaaGreatRows
import Derived.WalkKit
import Derived.ProofKit
import Derived.OpenShut
import Derived.Test.YtggdmadjpakkbaaGreatFairNamesPk
namespace Go.Proofs.YtggdmadjpakkbaaGreat.fairNames
open Go.ChangeShapes Go.WideShapes Go.RowKit Go.Tm
theorem own : ownKnob Tryz.prog.godebug = none := by kernel_rfl

set_option maxRecDepth 100000 in
theorem lifted (os : Os) (started : os.Started) (H : Type) (enc : TypeId × Value → H) :
    ReturnsInHanded {} Tryz.checked os 4 .any (Rows.fairNamesSpec.pre6 enc Tryz.prog Tryz.f4 Rows.fairNamesRow.domain false) (Rows.fairNamesSpec.post enc Tryz.prog Tryz.f4 false true false false) := by
  refine returnsInHanded_of_change (C := Tryz.checked) own started (by kernel_rfl) Tryz.func4
    (ChangeSpec.witness6 (enc := enc) (C := Tryz.checked) false ⟨#[], #[], []⟩ 8 (by kernel_rfl) (by kernel_rfl) (by kernel_rfl) (by kernel_rfl)) ?_
  intro W base args ds gs before hval hW _ _
  exact law_zero (K := 4) (tb := 4) (by kernel_rfl) rfl rfl Tryz.underlying4 rfl Tryz.namesF hW

set_option maxRecDepth 100000
theorem j1 : (Rows.fairNamesRow.inPlace == Tryz.prog.inPlace 4) = true := by kernel_rfl
theorem j2 : (Rows.fairNamesRow.unfollowed == Tryz.prog.unfollowed 4) = true := by kernel_rfl
theorem j3 : (Rows.fairNamesRow.recurses == Tryz.prog.recurses 4) = true := by kernel_rfl
theorem j4 : (Rows.fairNamesRow.named == Tryz.prog.varsNamed 4) = true := by kernel_rfl
theorem joined : joinedFacts Tryz.prog 4 Tryz.f4 Rows.fairNamesSpec Rows.fairNamesRow = true := by
  unfold joinedFacts
  rw [j1, j2, j3, j4]
  kernel_rfl

theorem over : Rows.fairNamesRow.holds Tryz.pinned (OpenSpec.ofChange Rows.fairNamesSpec) :=
  OpenClaim.holds_of_wide 4 Tryz.f4 rfl rfl rfl rfl rfl rfl rfl ⟨rfl, rfl, rfl, rfl, rfl⟩ rfl rfl rfl rfl rfl (by kernel_rfl) Tryz.func4 joined
    (of_decide_eq_true (by kernel_rfl)) (by unfold Func.isWrapper; first | (rw [if_pos (by decide +kernel)]; kernel_rfl) | (rw [if_neg (by decide +kernel)]; exact ⟨rfl, rfl⟩))
    (fun os started H enc _ => lifted os started H enc)

theorem proved : Rows.FairNamesSaid := over
#print axioms proved
end Go.Proofs.YtggdmadjpakkbaaGreat.fairNames

/- The law AttemptTells of chapter 8 (what an attempt has to tell is what the promise of the greatest ballot accepted, or its wish) answers true at every call: each function that it reaches is shown to answer as a plain model of it, and of the models it is shown in plain Lean. Conditions: none beyond the given row's. -/
import Derived.Test.YtejgahegnnbmkaaRows
import Derived.WalkKit
import Derived.ProofKit
import Derived.OpenShut
import Derived.Test.YtejgahegnnbmkaaAttemptTellsPk
import Derived.Test.YtejgahegnnbmkaaAttemptTellsPl
namespace Go.Proofs.Ytejgahegnnbmkaa.attemptTells
open Go.ChangeShapes Go.WideShapes Go.RowKit Go.Tm
set_option maxRecDepth 100000
theorem own : ownKnob Try.prog.godebug = none := by kernel_rfl

theorem agg22 : aggT Try.prog 22 = false := by kernel_rfl
theorem agg3 : aggT Try.prog 3 = false := by kernel_rfl
theorem cells3 : Try.prog.cellsOf 3 = 1 := by kernel_rfl
theorem tc22 {n : Nat} {l : List D} (h : typed Try.prog (n + 2) 22 l) : ∃ m : List Int, l = [.imm 1 (m.map (D.int .i64)) 4] := by
  obtain ⟨d, hd⟩ := typed_one Try.underlying22 h
  obtain ⟨m, hm⟩ := typed_list (D.int .i64) Try.underlying22 agg22 cells3 (fun x hx => by
    obtain ⟨a, ha⟩ := typed_int Try.underlying3 hx
    exact ⟨a, ha ▸ mkD_one agg3⟩) h
  rw [hd, mkD_one agg22] at hm
  exact ⟨m, by rw [hd, hm]⟩
theorem agg9 : aggT Try.prog 9 = false := by kernel_rfl
theorem agg23 : aggT Try.prog 23 = false := by kernel_rfl
theorem agg31 : aggT Try.prog 31 = true := by kernel_rfl
theorem tc31 {n : Nat} {l : List D} (h : typed Try.prog (n + 2) 31 l) : ∃ x : TPromise, l = [.int .i64 x.Node, .int .i64 x.Ballot, .str x.Value] := by
  replace h := typed_struct Try.underlying31 h
  obtain ⟨l0, r0, e0, h0, h⟩ := typedL_cons h
  obtain ⟨l1, r1, e1, h1, h⟩ := typedL_cons h
  obtain ⟨l2, r2, e2, h2, h⟩ := typedL_cons h
  have ez := typedL_nil h
  obtain ⟨a0, f0⟩ := typed_int Try.underlying3 h0
  obtain ⟨a1, f1⟩ := typed_int Try.underlying3 h1
  obtain ⟨a2, f2⟩ := typed_str Try.underlying9 h2
  refine ⟨⟨a0, a1, a2⟩, ?_⟩
  rw [e0, e1, e2, ez, f0, f1, f2]
  exact rfl
theorem cells31 : Try.prog.cellsOf 31 = 3 := by kernel_rfl
theorem tc23 {n : Nat} {l : List D} (h : typed Try.prog (n + 3) 23 l) : ∃ m : List TPromise, l = [.imm 3 (m.map TPromise.d) 4] := by
  obtain ⟨d, hd⟩ := typed_one Try.underlying23 h
  obtain ⟨m, hm⟩ := typed_list TPromise.d Try.underlying23 agg23 cells31 (fun x hx => by
    obtain ⟨a, ha⟩ := tc31 (n := n) hx
    exact ⟨a, (mkD_agg agg31).trans (by rw [ha]; rfl)⟩) h
  rw [hd, mkD_one agg23] at hm
  exact ⟨m, by rw [hd, hm]⟩
theorem params3 : Try.f3.params.toList = [22, 3, 9, 23] := by kernel_rfl
theorem hK (l : List D) (h : typedAll Try.prog 8 Try.f3.params.toList l) : CallP Try.prog 3 l (.bool true) := by
  rw [params3] at h
  obtain ⟨c0, r0, e0, h0, h⟩ := typedAll_cons h
  obtain ⟨c1, r1, e1, h1, h⟩ := typedAll_cons h
  obtain ⟨c2, r2, e2, h2, h⟩ := typedAll_cons h
  obtain ⟨c3, r3, e3, h3, h⟩ := typedAll_cons h
  have ez := typedAll_nil h
  obtain ⟨a0, f0⟩ := tc22 (n := 6) h0
  obtain ⟨a1, f1⟩ := typed_int Try.underlying3 h1
  obtain ⟨a2, f2⟩ := typed_str Try.underlying9 h2
  obtain ⟨a3, f3⟩ := tc23 (n := 5) h3
  rw [e0, e1, e2, e3, ez, f0, f1, f2, f3, mkD_one agg22, mkD_one agg3, mkD_one agg9, mkD_one agg23]
  exact callP_towncrierlaw08_AttemptTells a0 a1 a2 a3 _ (tells_law a0 a1 a2 a3)

set_option maxRecDepth 100000 in
theorem lifted (os : Os) (started : os.Started) (H : Type) (enc : TypeId × Value → H) :
    ReturnsInHanded {} Try.checked os 3 .any (Rows.attemptTellsSpec.pre6 enc Try.prog Try.f3 Rows.attemptTellsRow.domain false) (Rows.attemptTellsSpec.post enc Try.prog Try.f3 false true false false) := by
  refine returnsInHanded_of_change (C := Try.checked) own started (by kernel_rfl) Try.func3
    (ChangeSpec.witness6 (enc := enc) (C := Try.checked) false ⟨#[], #[.slice none 0 0, .int .i64 0, .string ⟨#[]⟩, .slice none 0 0], []⟩ 8 (by kernel_rfl) (by kernel_rfl) (by kernel_rfl) (by kernel_rfl)) ?_
  intro W base args ds gs before hval hW _ _
  exact law_contract (K := 3) (n := 8) (tb := 4) (by kernel_rfl) (by kernel_rfl) (by kernel_rfl) rfl rfl Try.underlying4 (fun ds h => by
    match ds, h with
    | [_, _, _, _], _ => rfl) hK hval hW

theorem over : Rows.attemptTellsRow.holds Try.pinned (OpenSpec.ofChange Rows.attemptTellsSpec) :=
  OpenClaim.holds_of_wide 3 Try.f3 rfl rfl rfl rfl rfl rfl rfl ⟨rfl, rfl, rfl, rfl, rfl⟩ rfl rfl rfl rfl rfl (by kernel_rfl) Try.func3 (by kernel_rfl)
    (of_decide_eq_true (by kernel_rfl)) (by unfold Func.isWrapper; first | (rw [if_pos (by decide +kernel)]; kernel_rfl) | (rw [if_neg (by decide +kernel)]; exact ⟨rfl, rfl⟩))
    (fun os started H enc _ => lifted os started H enc)

theorem proved : Rows.AttemptTellsSaid := over
#print axioms proved
end Go.Proofs.Ytejgahegnnbmkaa.attemptTells

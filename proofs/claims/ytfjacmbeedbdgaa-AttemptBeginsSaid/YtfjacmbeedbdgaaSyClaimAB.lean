/- The law AttemptBegins of chapter 8 (attempts begin, and the best is told, as the document says) answers true at every call: the codes of the program and of the document are walked through, function by function, and what they come to is the same. Conditions: none beyond the given row's. -/
import Derived.Test.YtfjacmbeedbdgaaRows
import Derived.Test.YtfjacmbeedbdgaaSyAttB
import Derived.Test.YtfjacmbeedbdgaaTmRow
import Derived.WalkKit
import Derived.ProofKit
import Derived.OpenShut
namespace Go.Proofs.Ytfjacmbeedbdgaa.attemptBegins
open Go.ChangeShapes Go.WideShapes Go.RowKit Go.Tm
set_option maxRecDepth 100000
theorem own : ownKnob Try.prog.godebug = none := by kernel_rfl

theorem agg22 : aggT Try.prog 22 = false := by kernel_rfl
theorem agg3 : aggT Try.prog 3 = false := by kernel_rfl
theorem agg9 : aggT Try.prog 9 = false := by kernel_rfl
theorem agg23 : aggT Try.prog 23 = false := by kernel_rfl
theorem agg38 : aggT Try.prog 38 = true := by kernel_rfl
theorem cells3 : Try.prog.cellsOf 3 = 1 := by kernel_rfl
theorem cells38 : Try.prog.cellsOf 38 = 3 := by kernel_rfl

theorem t22 {n : Nat} {l : List D} (h : typed Try.prog (n + 2) 22 l) : ∃ m : List Int, mkD Try.prog 22 l = .imm 1 (m.map (D.int .i64)) 4 :=
  typed_list (D.int .i64) Try.underlying22 agg22 cells3 (fun x hx => by
    obtain ⟨k, hk⟩ := typed_int Try.underlying3 hx
    exact ⟨k, hk ▸ mkD_one agg3⟩) h
theorem t38 {n : Nat} {l : List D} (h : typed Try.prog (n + 2) 38 l) : ∃ p : Pr, mkD Try.prog 38 l = p.d := by
  obtain ⟨l1, r1, e1, h1, h⟩ := typedL_cons (typed_struct Try.underlying38 h)
  obtain ⟨l2, r2, e2, h2, h⟩ := typedL_cons h
  obtain ⟨l3, r3, e3, h3, h⟩ := typedL_cons h
  have e4 := typedL_nil h
  obtain ⟨a, ha⟩ := typed_int Try.underlying3 h1
  obtain ⟨b, hb⟩ := typed_int Try.underlying3 h2
  obtain ⟨s, hs⟩ := typed_str Try.underlying9 h3
  refine ⟨⟨a, b, s⟩, (mkD_agg agg38).trans ?_⟩
  rw [e1, e2, e3, e4, ha, hb, hs]
  exact rfl
theorem t23 {n : Nat} {l : List D} (h : typed Try.prog (n + 3) 23 l) : ∃ m : List Pr, mkD Try.prog 23 l = .imm 3 (m.map Pr.d) 4 :=
  typed_list Pr.d Try.underlying23 agg23 cells38 (fun _ hx => t38 hx) h

theorem params3 : Try.f3.params.toList = [22, 3, 9, 23] := by kernel_rfl
theorem hK (l : List D) (h : typedAll Try.prog 8 Try.f3.params.toList l) : CallP Try.prog 3 l (.bool true) := by
  rw [params3] at h
  obtain ⟨c1, r1, e1, h1, h⟩ := typedAll_cons h
  obtain ⟨c2, r2, e2, h2, h⟩ := typedAll_cons h
  obtain ⟨c3, r3, e3, h3, h⟩ := typedAll_cons h
  obtain ⟨c4, r4, e4, h4, h⟩ := typedAll_cons h
  have e5 := typedAll_nil h
  obtain ⟨m, hm⟩ := t22 h1
  obtain ⟨b, hb⟩ := typed_int Try.underlying3 h2
  obtain ⟨w, hw⟩ := typed_str Try.underlying9 h3
  obtain ⟨ps, hp⟩ := t23 h4
  rw [e1, e2, e3, e4, e5, hm, hb, hw, hp, mkD_one agg3, mkD_one agg9]
  exact call3 m b w ps

set_option maxRecDepth 100000 in
theorem lifted (os : Os) (started : os.Started) (H : Type) (enc : TypeId × Value → H) :
    ReturnsInHanded {} Try.checked os 3 .any (Rows.attemptBeginsSpec.pre6 enc Try.prog Try.f3 Rows.attemptBeginsRow.domain false) (Rows.attemptBeginsSpec.post enc Try.prog Try.f3 false true false false) := by
  refine returnsInHanded_of_change (C := Try.checked) own started (by kernel_rfl) Try.func3
    (ChangeSpec.witness6 (enc := enc) (C := Try.checked) false ⟨#[], #[.slice none 0 0, .int .i64 0, .string ⟨#[]⟩, .slice none 0 0], []⟩ 8 (by kernel_rfl) (by kernel_rfl) (by kernel_rfl) (by kernel_rfl)) ?_
  intro W base args ds gs before hval hW _ _
  exact law_contract (K := 3) (n := 8) (tb := 4) (by kernel_rfl) (by kernel_rfl) (by kernel_rfl) rfl rfl Try.underlying4 (fun ds h => by
    match ds, h with
    | [_, _, _, _], _ => rfl) hK hval hW

theorem over : Rows.attemptBeginsRow.holds Try.pinned (OpenSpec.ofChange Rows.attemptBeginsSpec) :=
  OpenClaim.holds_of_wide 3 Try.f3 rfl rfl rfl rfl rfl rfl rfl ⟨rfl, rfl, rfl, rfl, rfl⟩ rfl rfl rfl rfl rfl (by kernel_rfl) Try.func3 (by kernel_rfl)
    (of_decide_eq_true (by kernel_rfl)) (by unfold Func.isWrapper; first | (rw [if_pos (by decide +kernel)]; kernel_rfl) | (rw [if_neg (by decide +kernel)]; exact ⟨rfl, rfl⟩))
    (fun os started H enc _ => lifted os started H enc)

theorem proved : Rows.AttemptBeginsSaid := over
#print axioms proved
end Go.Proofs.Ytfjacmbeedbdgaa.attemptBegins

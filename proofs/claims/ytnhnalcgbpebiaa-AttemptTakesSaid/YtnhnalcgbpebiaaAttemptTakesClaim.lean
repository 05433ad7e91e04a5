/- The law AttemptTakes of chapter 8 (attempts are checked, compared, copied, and take what comes as is said) answers true at every call: each function that it reaches is shown to answer as a plain model of it, and of the models it is shown in plain Lean. Conditions: none beyond the given row's. -/
import Derived.Test.YtnhnalcgbpebiaaRows
import Derived.WalkKit
import Derived.ProofKit
import Derived.OpenShut
import Derived.Test.YtnhnalcgbpebiaaAttemptTakesPk
import Derived.Test.YtnhnalcgbpebiaaAttemptTakesPl
namespace Go.Proofs.Ytnhnalcgbpebiaa.attemptTakes
open Go.ChangeShapes Go.WideShapes Go.RowKit Go.Tm
set_option maxRecDepth 100000
theorem own : ownKnob Try.prog.godebug = none := by kernel_rfl

theorem agg25 : aggT Try.prog 25 = true := by kernel_rfl
theorem agg22 : aggT Try.prog 22 = false := by kernel_rfl
theorem agg3 : aggT Try.prog 3 = false := by kernel_rfl
theorem cells3 : Try.prog.cellsOf 3 = 1 := by kernel_rfl
theorem tc22 {n : Nat} {l : List D} (h : typed Try.prog (n + 2) 22 l) : ∃ m : List Int, l = [.imm 1 (m.map (D.int .i64)) 4] := by
  obtain ⟨d, hd⟩ := typed_one Try.underlying22 h
  obtain ⟨m, hm⟩ := typed_list (D.int .i64) Try.underlying22 agg22 cells3 (fun x hx => by
    obtain ⟨a, ha⟩ := typed_int Try.underlying3 hx
    exact ⟨a, ha ▸ mkD_one agg3⟩) h
  rw [hd, mkD_one agg22] at hm
  exact ⟨m, by rw [hd, hm]⟩
theorem agg23 : aggT Try.prog 23 = false := by kernel_rfl
theorem agg27 : aggT Try.prog 27 = true := by kernel_rfl
theorem tc27 {n : Nat} {l : List D} (h : typed Try.prog (n + 2) 27 l) : ∃ x : TPromise, l = [.int .i64 x.Node, .int .i64 x.Ballot, .str x.Value] := by
  replace h := typed_struct Try.underlying27 h
  obtain ⟨l0, r0, e0, h0, h⟩ := typedL_cons h
  obtain ⟨l1, r1, e1, h1, h⟩ := typedL_cons h
  obtain ⟨l2, r2, e2, h2, h⟩ := typedL_cons h
  have ez := typedL_nil h
  obtain ⟨a0, f0⟩ := typed_int Try.underlying3 h0
  obtain ⟨a1, f1⟩ := typed_int Try.underlying3 h1
  obtain ⟨a2, f2⟩ := typed_str Try.underlying9 h2
  refine ⟨⟨a0, a1, a2⟩, ?_⟩
  rw [e0, e1, e2, ez, f0, f1, f2]
  exact rfl
theorem cells27 : Try.prog.cellsOf 27 = 3 := by kernel_rfl
theorem tc23 {n : Nat} {l : List D} (h : typed Try.prog (n + 3) 23 l) : ∃ m : List TPromise, l = [.imm 3 (m.map TPromise.d) 4] := by
  obtain ⟨d, hd⟩ := typed_one Try.underlying23 h
  obtain ⟨m, hm⟩ := typed_list TPromise.d Try.underlying23 agg23 cells27 (fun x hx => by
    obtain ⟨a, ha⟩ := tc27 (n := n) hx
    exact ⟨a, (mkD_agg agg27).trans (by rw [ha]; rfl)⟩) h
  rw [hd, mkD_one agg23] at hm
  exact ⟨m, by rw [hd, hm]⟩
theorem tc25 {n : Nat} {l : List D} (h : typed Try.prog (n + 4) 25 l) : ∃ x : TAttempt, l = [.int .u8 x.Phase, .int .i64 x.Ballot, .imm 1 (x.Members.map (D.int .i64)) 4, .str x.Wish, .str x.Value, .imm 3 (x.Promises.map TPromise.d) 4, .imm 1 (x.Accepted.map (D.int .i64)) 4] := by
  replace h := typed_struct Try.underlying25 h
  obtain ⟨l0, r0, e0, h0, h⟩ := typedL_cons h
  obtain ⟨l1, r1, e1, h1, h⟩ := typedL_cons h
  obtain ⟨l2, r2, e2, h2, h⟩ := typedL_cons h
  obtain ⟨l3, r3, e3, h3, h⟩ := typedL_cons h
  obtain ⟨l4, r4, e4, h4, h⟩ := typedL_cons h
  obtain ⟨l5, r5, e5, h5, h⟩ := typedL_cons h
  obtain ⟨l6, r6, e6, h6, h⟩ := typedL_cons h
  have ez := typedL_nil h
  obtain ⟨a0, f0⟩ := typed_int Try.underlying5 h0
  obtain ⟨a1, f1⟩ := typed_int Try.underlying3 h1
  obtain ⟨a2, f2⟩ := tc22 (n := n + 1) h2
  obtain ⟨a3, f3⟩ := typed_str Try.underlying9 h3
  obtain ⟨a4, f4⟩ := typed_str Try.underlying9 h4
  obtain ⟨a5, f5⟩ := tc23 (n := n + 0) h5
  obtain ⟨a6, f6⟩ := tc22 (n := n + 1) h6
  refine ⟨⟨a0, a1, a2, a3, a4, a5, a6⟩, ?_⟩
  rw [e0, e1, e2, e3, e4, e5, e6, ez, f0, f1, f2, f3, f4, f5, f6]
  exact rfl
theorem params3 : Try.f3.params.toList = [25, 25, 3, 27, 3] := by kernel_rfl
theorem hK (l : List D) (h : typedAll Try.prog 8 Try.f3.params.toList l) : CallP Try.prog 3 l (.bool true) := by
  rw [params3] at h
  obtain ⟨c0, r0, e0, h0, h⟩ := typedAll_cons h
  obtain ⟨c1, r1, e1, h1, h⟩ := typedAll_cons h
  obtain ⟨c2, r2, e2, h2, h⟩ := typedAll_cons h
  obtain ⟨c3, r3, e3, h3, h⟩ := typedAll_cons h
  obtain ⟨c4, r4, e4, h4, h⟩ := typedAll_cons h
  have ez := typedAll_nil h
  obtain ⟨a0, f0⟩ := tc25 (n := 4) h0
  obtain ⟨a1, f1⟩ := tc25 (n := 4) h1
  obtain ⟨a2, f2⟩ := typed_int Try.underlying3 h2
  obtain ⟨a3, f3⟩ := tc27 (n := 6) h3
  obtain ⟨a4, f4⟩ := typed_int Try.underlying3 h4
  rw [e0, e1, e2, e3, e4, ez, f0, f1, f2, f3, f4, mkD_agg agg25, mkD_one agg3, mkD_agg agg27]
  exact callP_wf ⟨Try.f3, Try.func3, by decide, rfl⟩ fun hw => callP_towncrierlaw08_AttemptTakes a0 a1 a2 a3 a4 _ (takes_law a0 a1 a2 a3 a4 hw)

set_option maxRecDepth 100000 in
theorem lifted (os : Os) (started : os.Started) (H : Type) (enc : TypeId × Value → H) :
    ReturnsInHanded {} Try.checked os 3 .any (Rows.attemptTakesSpec.pre6 enc Try.prog Try.f3 Rows.attemptTakesRow.domain false) (Rows.attemptTakesSpec.post enc Try.prog Try.f3 false true false false) := by
  refine returnsInHanded_of_change (C := Try.checked) own started (by kernel_rfl) Try.func3
    (ChangeSpec.witness6 (enc := enc) (C := Try.checked) false ⟨#[], #[.agg #[.int .u8 0, .int .i64 0, .slice none 0 0, .string ⟨#[]⟩, .string ⟨#[]⟩, .slice none 0 0, .slice none 0 0], .agg #[.int .u8 0, .int .i64 0, .slice none 0 0, .string ⟨#[]⟩, .string ⟨#[]⟩, .slice none 0 0, .slice none 0 0], .int .i64 0, .agg #[.int .i64 0, .int .i64 0, .string ⟨#[]⟩], .int .i64 0], []⟩ 8 (by kernel_rfl) (by kernel_rfl) (by kernel_rfl) (by kernel_rfl)) ?_
  intro W base args ds gs before hval hW _ _
  exact law_contract (K := 3) (n := 8) (tb := 4) (by kernel_rfl) (by kernel_rfl) (by kernel_rfl) rfl rfl Try.underlying4 (fun ds h => by
    match ds, h with
    | [_, _, _, _, _], _ => rfl) hK hval hW

theorem over : Rows.attemptTakesRow.holds Try.pinned (OpenSpec.ofChange Rows.attemptTakesSpec) :=
  OpenClaim.holds_of_wide 3 Try.f3 rfl rfl rfl rfl rfl rfl rfl ⟨rfl, rfl, rfl, rfl, rfl⟩ rfl rfl rfl rfl rfl (by kernel_rfl) Try.func3 (by kernel_rfl)
    (of_decide_eq_true (by kernel_rfl)) (by unfold Func.isWrapper; first | (rw [if_pos (by decide +kernel)]; kernel_rfl) | (rw [if_neg (by decide +kernel)]; exact ⟨rfl, rfl⟩))
    (fun os started H enc _ => lifted os started H enc)

theorem proved : Rows.AttemptTakesSaid := over
#print axioms proved
end Go.Proofs.Ytnhnalcgbpebiaa.attemptTakes

/- The law SkeenAll of chapter 15 (where all that waits is made final, all of it is delivered) answers true at every call: each function that it reaches is shown to answer as a plain model of it, and of the models it is shown in plain Lean. Conditions: none beyond the given row's. -/
import Derived.Test.YtnhnalcgbpebiaaRows
import Derived.WalkKit
import Derived.ProofKit
import Derived.OpenShut
import Derived.Test.YtnhnalcgbpebiaaSkeenAllPk
import Derived.Test.YtnhnalcgbpebiaaSkeenAllPl
namespace Go.Proofs.Ytnhnalcgbpebiaa.skeenAll
open Go.ChangeShapes Go.WideShapes Go.RowKit Go.Tm
set_option maxRecDepth 100000
theorem own : ownKnob Try.prog.godebug = none := by kernel_rfl

theorem agg83 : aggT Try.prog 83 = true := by kernel_rfl
theorem agg80 : aggT Try.prog 80 = false := by kernel_rfl
theorem agg90 : aggT Try.prog 90 = true := by kernel_rfl
theorem agg88 : aggT Try.prog 88 = true := by kernel_rfl
theorem agg22 : aggT Try.prog 22 = false := by kernel_rfl
theorem agg3 : aggT Try.prog 3 = false := by kernel_rfl
theorem cells3 : Try.prog.cellsOf 3 = 1 := by kernel_rfl
theorem tc22 {n : Nat} {l : List D} (h : typed Try.prog (n + 2) 22 l) : ∃ m : List Int, l = [.imm 1 (m.map (D.int .i64)) 4] := by
  obtain ⟨d, hd⟩ := typed_one Try.underlying22 h
  obtain ⟨m, hm⟩ := typed_list (D.int .i64) Try.underlying22 agg22 cells3 (fun x hx => by
    obtain ⟨a, ha⟩ := typed_int Try.underlying3 hx
    exact ⟨a, ha ▸ mkD_one agg3⟩) h
  rw [hd, mkD_one agg22] at hm
  exact ⟨m, by rw [hd, hm]⟩
theorem tc88 {n : Nat} {l : List D} (h : typed Try.prog (n + 3) 88 l) : ∃ x : TMessage, l = [.int .i64 x.Id, .imm 1 (x.Groups.map (D.int .i64)) 4, .int .i64 x.Topic, .str x.Key, .str x.Body] := by
  replace h := typed_struct Try.underlying88 h
  obtain ⟨l0, r0, e0, h0, h⟩ := typedL_cons h
  obtain ⟨l1, r1, e1, h1, h⟩ := typedL_cons h
  obtain ⟨l2, r2, e2, h2, h⟩ := typedL_cons h
  obtain ⟨l3, r3, e3, h3, h⟩ := typedL_cons h
  obtain ⟨l4, r4, e4, h4, h⟩ := typedL_cons h
  have ez := typedL_nil h
  obtain ⟨a0, f0⟩ := typed_int Try.underlying3 h0
  obtain ⟨a1, f1⟩ := tc22 (n := n + 0) h1
  obtain ⟨a2, f2⟩ := typed_int Try.underlying3 h2
  obtain ⟨a3, f3⟩ := typed_str Try.underlying9 h3
  obtain ⟨a4, f4⟩ := typed_str Try.underlying9 h4
  refine ⟨⟨a0, a1, a2, a3, a4⟩, ?_⟩
  rw [e0, e1, e2, e3, e4, ez, f0, f1, f2, f3, f4]
  exact rfl
theorem tc90 {n : Nat} {l : List D} (h : typed Try.prog (n + 4) 90 l) : ∃ x : TWait, l = [.int .i64 x.Message.Id, .imm 1 (x.Message.Groups.map (D.int .i64)) 4, .int .i64 x.Message.Topic, .str x.Message.Key, .str x.Message.Body, .int .i64 x.Time, .bool x.Final] := by
  replace h := typed_struct Try.underlying90 h
  obtain ⟨l0, r0, e0, h0, h⟩ := typedL_cons h
  obtain ⟨l1, r1, e1, h1, h⟩ := typedL_cons h
  obtain ⟨l2, r2, e2, h2, h⟩ := typedL_cons h
  have ez := typedL_nil h
  obtain ⟨a0, f0⟩ := tc88 (n := n + 0) h0
  obtain ⟨a1, f1⟩ := typed_int Try.underlying3 h1
  obtain ⟨a2, f2⟩ := typed_bool Try.underlying4 h2
  refine ⟨⟨a0, a1, a2⟩, ?_⟩
  rw [e0, e1, e2, ez, f0, f1, f2]
  exact rfl
theorem cells90 : Try.prog.cellsOf 90 = 7 := by kernel_rfl
theorem tc80 {n : Nat} {l : List D} (h : typed Try.prog (n + 5) 80 l) : ∃ m : List TWait, l = [.imm 7 (m.map TWait.d) 4] := by
  obtain ⟨d, hd⟩ := typed_one Try.underlying80 h
  obtain ⟨m, hm⟩ := typed_list TWait.d Try.underlying80 agg80 cells90 (fun x hx => by
    obtain ⟨a, ha⟩ := tc90 (n := n) hx
    exact ⟨a, (mkD_agg agg90).trans (by rw [ha]; rfl)⟩) h
  rw [hd, mkD_one agg80] at hm
  exact ⟨m, by rw [hd, hm]⟩
theorem agg81 : aggT Try.prog 81 = false := by kernel_rfl
theorem agg103 : aggT Try.prog 103 = true := by kernel_rfl
theorem tc103 {n : Nat} {l : List D} (h : typed Try.prog (n + 2) 103 l) : ∃ x : TStamp, l = [.int .i64 x.Time, .int .i64 x.Id] := by
  replace h := typed_struct Try.underlying103 h
  obtain ⟨l0, r0, e0, h0, h⟩ := typedL_cons h
  obtain ⟨l1, r1, e1, h1, h⟩ := typedL_cons h
  have ez := typedL_nil h
  obtain ⟨a0, f0⟩ := typed_int Try.underlying3 h0
  obtain ⟨a1, f1⟩ := typed_int Try.underlying3 h1
  refine ⟨⟨a0, a1⟩, ?_⟩
  rw [e0, e1, ez, f0, f1]
  exact rfl
theorem cells103 : Try.prog.cellsOf 103 = 2 := by kernel_rfl
theorem tc81 {n : Nat} {l : List D} (h : typed Try.prog (n + 3) 81 l) : ∃ m : List TStamp, l = [.imm 2 (m.map TStamp.d) 4] := by
  obtain ⟨d, hd⟩ := typed_one Try.underlying81 h
  obtain ⟨m, hm⟩ := typed_list TStamp.d Try.underlying81 agg81 cells103 (fun x hx => by
    obtain ⟨a, ha⟩ := tc103 (n := n) hx
    exact ⟨a, (mkD_agg agg103).trans (by rw [ha]; rfl)⟩) h
  rw [hd, mkD_one agg81] at hm
  exact ⟨m, by rw [hd, hm]⟩
theorem tc83 {n : Nat} {l : List D} (h : typed Try.prog (n + 6) 83 l) : ∃ x : TSkeen, l = [.int .i64 x.Clock, .imm 7 (x.Waits.map TWait.d) 4, .imm 2 (x.Done.map TStamp.d) 4] := by
  replace h := typed_struct Try.underlying83 h
  obtain ⟨l0, r0, e0, h0, h⟩ := typedL_cons h
  obtain ⟨l1, r1, e1, h1, h⟩ := typedL_cons h
  obtain ⟨l2, r2, e2, h2, h⟩ := typedL_cons h
  have ez := typedL_nil h
  obtain ⟨a0, f0⟩ := typed_int Try.underlying3 h0
  obtain ⟨a1, f1⟩ := tc80 (n := n + 0) h1
  obtain ⟨a2, f2⟩ := tc81 (n := n + 2) h2
  refine ⟨⟨a0, a1, a2⟩, ?_⟩
  rw [e0, e1, e2, ez, f0, f1, f2]
  exact rfl
theorem params9 : Try.f9.params.toList = [83, 22] := by kernel_rfl
theorem hK (l : List D) (h : typedAll Try.prog 8 Try.f9.params.toList l) : CallP Try.prog 9 l (.bool true) := by
  rw [params9] at h
  obtain ⟨c0, r0, e0, h0, h⟩ := typedAll_cons h
  obtain ⟨c1, r1, e1, h1, h⟩ := typedAll_cons h
  have ez := typedAll_nil h
  obtain ⟨a0, f0⟩ := tc83 (n := 2) h0
  obtain ⟨a1, f1⟩ := tc22 (n := 6) h1
  rw [e0, e1, ez, f0, f1, mkD_agg agg83, mkD_one agg22]
  exact callP_towncrierlaw15_SkeenAll a0 a1 _ (all_law a0 a1)

set_option maxRecDepth 100000 in
theorem lifted (os : Os) (started : os.Started) (H : Type) (enc : TypeId × Value → H) :
    ReturnsInHanded {} Try.checked os 9 .any (Rows.skeenAllSpec.pre6 enc Try.prog Try.f9 Rows.skeenAllRow.domain false) (Rows.skeenAllSpec.post enc Try.prog Try.f9 false true false false) := by
  refine returnsInHanded_of_change (C := Try.checked) own started (by kernel_rfl) Try.func9
    (ChangeSpec.witness6 (enc := enc) (C := Try.checked) false ⟨#[], #[.agg #[.int .i64 0, .slice none 0 0, .slice none 0 0], .slice none 0 0], []⟩ 8 (by kernel_rfl) (by kernel_rfl) (by kernel_rfl) (by kernel_rfl)) ?_
  intro W base args ds gs before hval hW _ _
  exact law_contract (K := 9) (n := 8) (tb := 4) (by kernel_rfl) (by kernel_rfl) (by kernel_rfl) rfl rfl Try.underlying4 (fun ds h => by
    match ds, h with
    | [_, _], _ => rfl) hK hval hW

theorem over : Rows.skeenAllRow.holds Try.pinned (OpenSpec.ofChange Rows.skeenAllSpec) :=
  OpenClaim.holds_of_wide 9 Try.f9 rfl rfl rfl rfl rfl rfl rfl ⟨rfl, rfl, rfl, rfl, rfl⟩ rfl rfl rfl rfl rfl (by kernel_rfl) Try.func9 (by kernel_rfl)
    (of_decide_eq_true (by kernel_rfl)) (by unfold Func.isWrapper; first | (rw [if_pos (by decide +kernel)]; kernel_rfl) | (rw [if_neg (by decide +kernel)]; exact ⟨rfl, rfl⟩))
    (fun os started H enc _ => lifted os started H enc)

theorem proved : Rows.SkeenAllSaid := over
#print axioms proved
end Go.Proofs.Ytnhnalcgbpebiaa.skeenAll

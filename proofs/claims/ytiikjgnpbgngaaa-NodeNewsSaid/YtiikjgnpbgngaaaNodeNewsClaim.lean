/- The law NodeNews of chapter 27 (nodes begin as is said) answers true at every call: each function that it reaches is shown to answer as a plain model of it, and of the models it is shown in plain Lean. Conditions: none beyond the given row's. -/
import Derived.Test.YtiikjgnpbgngaaaRows
import Derived.WalkKit
import Derived.ProofKit
import Derived.OpenShut
import Derived.Test.YtiikjgnpbgngaaaNodeNewsPi
import Derived.Test.YtiikjgnpbgngaaaNodeNewsPj
namespace Go.Proofs.Ytiikjgnpbgngaaa.nodeNews
open Go.ChangeShapes Go.WideShapes Go.RowKit Go.Tm
set_option maxRecDepth 100000
theorem own : ownKnob Try.prog.godebug = none := by kernel_rfl

theorem agg3 : aggT Try.prog 3 = false := by kernel_rfl
theorem agg22 : aggT Try.prog 22 = false := by kernel_rfl
theorem agg45 : aggT Try.prog 45 = true := by kernel_rfl
theorem agg43 : aggT Try.prog 43 = false := by kernel_rfl
theorem cells3 : Try.prog.cellsOf 3 = 1 := by kernel_rfl
theorem tc43 {n : Nat} {l : List D} (h : typed Try.prog (n + 2) 43 l) : ∃ m : List Int, l = [.imm 1 (m.map (D.int .i64)) 4] := by
  obtain ⟨d, hd⟩ := typed_one Try.underlying43 h
  obtain ⟨m, hm⟩ := typed_list (D.int .i64) Try.underlying43 agg43 cells3 (fun x hx => by
    obtain ⟨a, ha⟩ := typed_int Try.underlying3 hx
    exact ⟨a, ha ▸ mkD_one agg3⟩) h
  rw [hd, mkD_one agg43] at hm
  exact ⟨m, by rw [hd, hm]⟩
theorem tc45 {n : Nat} {l : List D} (h : typed Try.prog (n + 3) 45 l) : ∃ x : TGroup, l = [.imm 1 (x.Roster.map (D.int .i64)) 4, .imm 1 (x.Members.map (D.int .i64)) 4] := by
  replace h := typed_struct Try.underlying45 h
  obtain ⟨l0, r0, e0, h0, h⟩ := typedL_cons h
  obtain ⟨l1, r1, e1, h1, h⟩ := typedL_cons h
  have ez := typedL_nil h
  obtain ⟨a0, f0⟩ := tc43 (n := n + 0) h0
  obtain ⟨a1, f1⟩ := tc43 (n := n + 0) h1
  refine ⟨⟨a0, a1⟩, ?_⟩
  rw [e0, e1, ez, f0, f1]
  exact rfl
theorem cells45 : Try.prog.cellsOf 45 = 2 := by kernel_rfl
theorem tc22 {n : Nat} {l : List D} (h : typed Try.prog (n + 4) 22 l) : ∃ m : List TGroup, l = [.imm 2 (m.map TGroup.d) 4] := by
  obtain ⟨d, hd⟩ := typed_one Try.underlying22 h
  obtain ⟨m, hm⟩ := typed_list TGroup.d Try.underlying22 agg22 cells45 (fun x hx => by
    obtain ⟨a, ha⟩ := tc45 (n := n) hx
    exact ⟨a, (mkD_agg agg45).trans (by rw [ha]; rfl)⟩) h
  rw [hd, mkD_one agg22] at hm
  exact ⟨m, by rw [hd, hm]⟩
theorem params3 : Try.f3.params.toList = [3, 22] := by kernel_rfl
theorem hK (l : List D) (h : typedAll Try.prog 8 Try.f3.params.toList l) : CallP Try.prog 3 l (.bool true) := by
  rw [params3] at h
  obtain ⟨c0, r0, e0, h0, h⟩ := typedAll_cons h
  obtain ⟨c1, r1, e1, h1, h⟩ := typedAll_cons h
  have ez := typedAll_nil h
  obtain ⟨a0, f0⟩ := typed_int Try.underlying3 h0
  obtain ⟨a1, f1⟩ := tc22 (n := 4) h1
  rw [e0, e1, ez, f0, f1, mkD_one agg3, mkD_one agg22]
  exact callP_towncrierlaw27_NodeNews a0 a1 _ (nodeNews_law a0 a1)

set_option maxRecDepth 100000 in
theorem lifted (os : Os) (started : os.Started) (H : Type) (enc : TypeId × Value → H) :
    ReturnsInHanded {} Try.checked os 3 .any (Rows.nodeNewsSpec.pre6 enc Try.prog Try.f3 Rows.nodeNewsRow.domain false) (Rows.nodeNewsSpec.post enc Try.prog Try.f3 false true false false) := by
  refine returnsInHanded_of_change (C := Try.checked) own started (by kernel_rfl) Try.func3
    (ChangeSpec.witness6 (enc := enc) (C := Try.checked) false ⟨#[], #[.int .i64 0, .slice none 0 0], []⟩ 8 (by kernel_rfl) (by kernel_rfl) (by kernel_rfl) (by kernel_rfl)) ?_
  intro W base args ds gs before hval hW _ _
  exact law_contract (K := 3) (n := 8) (tb := 4) (by kernel_rfl) (by kernel_rfl) (by kernel_rfl) rfl rfl Try.underlying4 (fun ds h => by
    match ds, h with
    | [_, _], _ => rfl) hK hval hW

theorem over : Rows.nodeNewsRow.holds Try.pinned (OpenSpec.ofChange Rows.nodeNewsSpec) :=
  OpenClaim.holds_of_wide 3 Try.f3 rfl rfl rfl rfl rfl rfl rfl ⟨rfl, rfl, rfl, rfl, rfl⟩ rfl rfl rfl rfl rfl (by kernel_rfl) Try.func3 (by kernel_rfl)
    (of_decide_eq_true (by kernel_rfl)) (by unfold Func.isWrapper; first | (rw [if_pos (by decide +kernel)]; kernel_rfl) | (rw [if_neg (by decide +kernel)]; exact ⟨rfl, rfl⟩))
    (fun os started H enc _ => lifted os started H enc)

theorem proved : Rows.NodeNewsSaid := over
#print axioms proved
end Go.Proofs.Ytiikjgnpbgngaaa.nodeNews

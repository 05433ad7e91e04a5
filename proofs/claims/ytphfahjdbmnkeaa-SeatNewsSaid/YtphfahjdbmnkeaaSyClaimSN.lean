/- The law SeatNews of chapter 25 (seats begin as the document says) answers true at every call: the codes of the program and of the document are walked through, function by function, and what they come to is the same. Conditions: none beyond the given row's. -/
import Derived.Test.YtphfahjdbmnkeaaRows
import Derived.Test.YtphfahjdbmnkeaaSySeatLaw
import Derived.Test.YtphfahjdbmnkeaaTmRow
import Derived.WalkKit
import Derived.ProofKit
import Derived.OpenShut
namespace Go.Proofs.Ytphfahjdbmnkeaa.seatNews
open Go.ChangeShapes Go.WideShapes Go.RowKit Go.Tm
set_option maxRecDepth 100000
theorem own : ownKnob Try.prog.godebug = none := by kernel_rfl

theorem agg22 : aggT Try.prog 22 = false := by kernel_rfl
theorem agg3 : aggT Try.prog 3 = false := by kernel_rfl
theorem agg24 : aggT Try.prog 24 = true := by kernel_rfl
theorem cells3 : Try.prog.cellsOf 3 = 1 := by kernel_rfl

theorem t22 {n : Nat} {l : List D} (h : typed Try.prog (n + 2) 22 l) : ∃ m : List Int, mkD Try.prog 22 l = .imm 1 (m.map (D.int .i64)) 4 :=
  typed_list (D.int .i64) Try.underlying22 agg22 cells3 (fun x hx => by
    obtain ⟨k, hk⟩ := typed_int Try.underlying3 hx
    exact ⟨k, hk ▸ mkD_one agg3⟩) h
theorem t22l {n : Nat} {l : List D} (h : typed Try.prog (n + 2) 22 l) : ∃ m : List Int, l = [.imm 1 (m.map (D.int .i64)) 4] := by
  obtain ⟨d, hd⟩ := typed_one Try.underlying22 h
  obtain ⟨m, hm⟩ := t22 h
  rw [hd, mkD_one agg22] at hm
  exact ⟨m, by rw [hd, hm]⟩
theorem t24 {n : Nat} {l : List D} (h : typed Try.prog (n + 3) 24 l) : ∃ r m : List Int, mkD Try.prog 24 l = grp r m := by
  obtain ⟨l1, r1, e1, h1, h⟩ := typedL_cons (typed_struct Try.underlying24 h)
  obtain ⟨l2, r2, e2, h2, h⟩ := typedL_cons h
  have e3 := typedL_nil h
  obtain ⟨a, ha⟩ := t22l (n := n) h1
  obtain ⟨b, hb⟩ := t22l (n := n) h2
  refine ⟨a, b, (mkD_agg agg24).trans ?_⟩
  rw [e1, e2, e3, ha, hb]
  exact rfl

theorem params3 : Try.f3.params.toList = [3, 3, 24] := by kernel_rfl
theorem hK (l : List D) (h : typedAll Try.prog 8 Try.f3.params.toList l) : CallP Try.prog 3 l (.bool true) := by
  rw [params3] at h
  obtain ⟨c1, r1, e1, h1, h⟩ := typedAll_cons h
  obtain ⟨c2, r2, e2, h2, h⟩ := typedAll_cons h
  obtain ⟨c3, r3, e3, h3, h⟩ := typedAll_cons h
  have e4 := typedAll_nil h
  obtain ⟨me, hme⟩ := typed_int Try.underlying3 h1
  obtain ⟨num, hnum⟩ := typed_int Try.underlying3 h2
  obtain ⟨r, m, hg⟩ := t24 h3
  rw [e1, e2, e3, e4, hme, hnum, hg, mkD_one agg3, mkD_one agg3]
  exact call3 me num r m

set_option maxRecDepth 100000 in
theorem lifted (os : Os) (started : os.Started) (H : Type) (enc : TypeId × Value → H) :
    ReturnsInHanded {} Try.checked os 3 .any (Rows.seatNewsSpec.pre6 enc Try.prog Try.f3 Rows.seatNewsRow.domain false) (Rows.seatNewsSpec.post enc Try.prog Try.f3 false true false false) := by
  refine returnsInHanded_of_change (C := Try.checked) own started (by kernel_rfl) Try.func3
    (ChangeSpec.witness6 (enc := enc) (C := Try.checked) false ⟨#[], #[.int .i64 0, .int .i64 0, .agg #[.slice none 0 0, .slice none 0 0]], []⟩ 8 (by kernel_rfl) (by kernel_rfl) (by kernel_rfl) (by kernel_rfl)) ?_
  intro W base args ds gs before hval hW _ _
  exact law_contract (K := 3) (n := 8) (tb := 4) (by kernel_rfl) (by kernel_rfl) (by kernel_rfl) rfl rfl Try.underlying4 (fun ds h => by
    match ds, h with
    | [_, _, _], _ => rfl) hK hval hW

theorem over : Rows.seatNewsRow.holds Try.pinned (OpenSpec.ofChange Rows.seatNewsSpec) :=
  OpenClaim.holds_of_wide 3 Try.f3 rfl rfl rfl rfl rfl rfl rfl ⟨rfl, rfl, rfl, rfl, rfl⟩ rfl rfl rfl rfl rfl (by kernel_rfl) Try.func3 (by kernel_rfl)
    (of_decide_eq_true (by kernel_rfl)) (by unfold Func.isWrapper; first | (rw [if_pos (by decide +kernel)]; kernel_rfl) | (rw [if_neg (by decide +kernel)]; exact ⟨rfl, rfl⟩))
    (fun os started H enc _ => lifted os started H enc)

theorem proved : Rows.SeatNewsSaid := over
#print axioms proved
end Go.Proofs.Ytphfahjdbmnkeaa.seatNews

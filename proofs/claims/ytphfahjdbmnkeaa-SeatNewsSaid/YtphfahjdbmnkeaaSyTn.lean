/- Numbers that are turned, one by one. -/
import Derived.Test.YtphfahjdbmnkeaaTmPure
namespace Go.Proofs
open Go.Tm

/-- numbers, of which the first so many were turned -/
def tn (l : List Int) (i : Nat) : List D := List.replicate i (.int .i64 77) ++ (l.drop i).map (D.int .i64)
theorem tn_len (l : List Int) (i : Nat) (h : i ≤ l.length) : (tn l i).length = l.length := by simp [tn]; omega
theorem tn_nth (l : List Int) (i : Nat) (h : i < l.length) : nth (tn l i) i = .int .i64 l[i] := by
  unfold nth tn
  rw [List.drop_eq_getElem_cons h, List.map_cons, List.getD_eq_getElem?_getD, List.getElem?_append_right (by simp)]
  simp only [List.length_replicate, Nat.sub_self, List.getElem?_cons_zero, Option.getD_some]
theorem tn_set (l : List Int) (i : Nat) (h : i < l.length) : setN (tn l i) i (.int .i64 77) = tn l (i + 1) := by
  unfold setN tn
  rw [List.drop_eq_getElem_cons h, List.map_cons, List.replicate_succ', List.set_append_right _ _ (by simp)]
  simp only [List.length_replicate, Nat.sub_self, List.set_cons_zero, List.append_assoc, List.cons_append, List.nil_append]
end Go.Proofs

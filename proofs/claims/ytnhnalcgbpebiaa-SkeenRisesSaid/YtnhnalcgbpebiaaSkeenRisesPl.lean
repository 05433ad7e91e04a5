/- Models of functions, printed by gw.py. -/
import Derived.WideKeyArgs
import Derived.ChangeSame
import Derived.ChangeArms
import Derived.OpenShut
import Derived.Carry
import Derived.SizedLaws
import Derived.Test.YtnhnalcgbpebiaaSkeenRisesPg
import Derived.Test.YtnhnalcgbpebiaaSkeenRisesPh
import Derived.Test.YtnhnalcgbpebiaaSkeenRisesPi
import Derived.Test.YtnhnalcgbpebiaaSkeenRisesPf
import Derived.Test.YtnhnalcgbpebiaaSkeenRisesPj
section
namespace Go.Proofs
open Go.Tm
set_option linter.unusedVariables false

end Go.Proofs
end
section
/- Models of functions, printed by gw.py. -/






namespace Go.Proofs
open Go.Tm
set_option linter.unusedVariables false

end Go.Proofs
end
section
/- What the bits of two quorums tell, in plain words. -/

namespace Go.Proofs
open Go.Tm

/-- rising lists of numbers up to 5, from behind a number on -/
def risesP : Int → List Int → Bool
  | _, [] => true
  | last, n :: r => decide (last < n) && decide (n < 6) && risesP n r
end Go.Proofs
end
section
/- How many members are among some nodes, by bits, in plain words. -/

namespace Go.Proofs
open Go.Tm

end Go.Proofs
end
section
/- Plain facts about the models of chapter 08. -/



namespace Go.Proofs
open Go.Tm
set_option linter.unusedSimpArgs false

theorem index_loop (v : Int) (l : List Int) : ∀ n : Nat, (v ∈ l → ∃ k : Nat, m_slices_Index_int_int_loop1 v l n = some (.inl (k : Int))) ∧ (v ∉ l → m_slices_Index_int_int_loop1 v l n = some (.inr ())) := by
  induction l with
  | nil => intro n; exact ⟨(fun h => by cases h), fun _ => rfl⟩
  | cons y l ih =>
    intro n
    rw [m_slices_Index_int_int_loop1]
    by_cases h : v = y
    · rw [if_pos h]
      exact ⟨fun _ => ⟨n, rfl⟩, fun hn => absurd (h ▸ List.mem_cons_self) hn⟩
    · rw [if_neg h]
      refine ⟨fun hv => (ih (n + 1)).1 ?_, fun hv => (ih (n + 1)).2 fun hh => hv (List.mem_cons_of_mem _ hh)⟩
      rcases List.mem_cons.1 hv with hv | hv
      · exact absurd hv h
      · exact hv
theorem has_eq (l : List Int) (v : Int) : m_quorum_Has l v = some (decide (v ∈ l)) := by
  rw [m_quorum_Has, m_slices_Contains_int_int, m_slices_Index_int_int]
  by_cases h : v ∈ l
  · obtain ⟨k, hk⟩ := (index_loop v l 0).1 h
    rw [hk]
    simp [h]
  · rw [(index_loop v l 0).2 h]
    simp [h]
end Go.Proofs
end
section
/- Plain facts about quorums and ballots. -/

namespace Go.Proofs
open Go.Tm
set_option linter.unusedSimpArgs false

theorem rises_lt : ∀ (l : List Int) (k : Int), risesP k l = true → ∀ x ∈ l, k < x ∧ x < 6 := by
  intro l
  induction l with
  | nil => intro _ _ x hx; cases hx
  | cons y l ih =>
    intro k h x hx
    simp only [risesP, Bool.and_eq_true, decide_eq_true_eq] at h
    rcases List.mem_cons.1 hx with rfl | hx
    · exact h.1
    · have := ih y h.2 x hx
      omega
theorem qcheck_loop (l : List Int) : ∀ n, m_quorum_Check_loop1 l n = some (if risesP n l = true then .inr (l.getLastD n) else .inl 60) := by
  induction l with
  | nil => intro n; simp [m_quorum_Check_loop1, risesP]
  | cons y l ih =>
    intro n
    rw [m_quorum_Check_loop1]
    by_cases h : (y ≤ n) ∨ (y ≥ 6)
    · rw [if_pos h, if_neg (by simp only [risesP, Bool.and_eq_true, decide_eq_true_eq]; omega)]
    · rw [if_neg h, ih]
      have : risesP n (y :: l) = risesP y l := by
        simp only [risesP]
        have h1 : decide (n < y) = true := by simp; omega
        have h2 : decide (y < 6) = true := by simp; omega
        simp [h1, h2]
      rw [this, List.getLastD_cons]
def QOk (l : List Int) : Prop := l.length ≤ 6 ∧ risesP (-1) l = true ∧ l ≠ []
instance (l : List Int) : Decidable (QOk l) := by unfold QOk; infer_instance
theorem qcheck_eq (l : List Int) : m_quorum_Check l = some (if l.length > 6 then 4 else if risesP (-1) l = true ∧ l ≠ [] then 0 else 60) := by
  rw [m_quorum_Check]
  by_cases h : (l.length : Int) > 6
  · rw [if_pos h, if_pos (by omega)]
  · rw [if_neg h, if_neg (by omega), qcheck_loop]
    by_cases hr : risesP (-1) l = true
    · rw [if_pos hr]
      cases l with
      | nil => simp
      | cons y l =>
        have hl := (rises_lt (y :: l) (-1) hr ((y :: l).getLastD (-1)) (by rw [List.getLastD_eq_getLast?, List.getLast?_eq_some_getLast (by simp)]; exact List.getLast_mem (by simp))).1
        simp only [Option.bind_some, ne_eq, reduceCtorEq, not_false_eq_true, and_true, if_pos hr]
        rw [if_neg (by omega)]
    · rw [if_neg hr]
      simp [hr]
end Go.Proofs
end
section
/- Plain facts about ballots, promises and rising lists. -/

namespace Go.Proofs
open Go.Tm
set_option linter.unusedSimpArgs false

/-- may this number be a ballot's? -/
def BOk (b : Int) : Prop := ¬ (wr .i64 (b.tdiv 8) < 1 ∨ wr .i64 (b.tdiv 8) > 1048576) ∧ b.tmod 8 ≥ 0 ∧ b.tmod 8 < 6
instance (b : Int) : Decidable (BOk b) := by unfold BOk; infer_instance
/-- may this be promised to a ballot? -/
def MayS (p : TPromise) (b : Int) : Prop := if p.Ballot = 0 then p.Value = [] else BOk p.Ballot ∧ p.Ballot < b ∧ p.Value.length ≤ 1024
instance (p : TPromise) (b : Int) : Decidable (MayS p b) := by unfold MayS; infer_instance
end Go.Proofs
end
section
/- Plain facts about rising lists among members. -/

namespace Go.Proofs
open Go.Tm
set_option linter.unusedSimpArgs false

end Go.Proofs
end
section
/- Plain facts about majorities. -/

namespace Go.Proofs
open Go.Tm
set_option linter.unusedSimpArgs false

end Go.Proofs
end
section
/- Plain facts about valid attempts. -/

namespace Go.Proofs
open Go.Tm
set_option linter.unusedSimpArgs false

theorem equal_loop (b : List Int) : ∀ (l : List Int) (n : Nat), n + l.length = b.length → m_slices_Equal_int_int_loop1 b l n = some (if l = b.drop n then .inr () else .inl false) := by
  intro l
  induction l with
  | nil => intro n h; simp [m_slices_Equal_int_int_loop1]; simp at h; omega
  | cons y l ih =>
    intro n h
    simp only [List.length_cons] at h
    have hn : n < b.length := by omega
    have hg : b.getD n default = b[n] := by simp [List.getD, List.getElem?_eq_getElem hn]
    have hd := List.drop_eq_getElem_cons hn
    rw [m_slices_Equal_int_int_loop1, if_pos hn, hg]
    generalize b[n] = z at hd
    rw [hd]
    by_cases hy : y = z
    · rw [if_neg (by simpa using hy), ih (n + 1) (by omega)]
      simp only [hy, List.cons.injEq, true_and]
    · rw [if_pos hy]
      simp only [hy, List.cons.injEq, false_and, if_false]
theorem equal_eq (a b : List Int) : m_slices_Equal_int_int a b = some (decide (a = b)) := by
  rw [m_slices_Equal_int_int]
  by_cases h : (a.length : Int) = (b.length : Int)
  · rw [if_neg (by simpa using h), equal_loop b a 0 (by omega), List.drop_zero]
    by_cases hab : a = b <;> simp [hab]
  · rw [if_pos h]
    have : a ≠ b := fun hh => h (by rw [hh])
    simp [this]

end Go.Proofs
end
section
/- Plain facts about valid attempts: what attempt.Check tells. -/

namespace Go.Proofs
open Go.Tm
set_option linter.unusedSimpArgs false

end Go.Proofs
end
section
/- Plain facts about sort.Search. -/

namespace Go.Proofs
open Go.Tm
set_option linter.unusedSimpArgs false

theorem half_eq (i j : Nat) (h : i + j < 4000000) : wr .i64 (shw false .u64 (wr .u64 (wr .i64 ((i : Int) + (j : Int)))) 1) = (((i + j) / 2 : Nat) : Int) := by
  have e1 : wr .i64 ((i : Int) + (j : Int)) = (i : Int) + (j : Int) := wr_eq _ _ (by show (-9223372036854775808 : Int) ≤ _; omega) (by show _ ≤ (9223372036854775807 : Int); omega)
  have e2 : wr .u64 ((i : Int) + (j : Int)) = (i : Int) + (j : Int) := wr_eq _ _ (by show (0 : Int) ≤ _; omega) (by show _ ≤ (18446744073709551615 : Int); omega)
  have e3 : shw false .u64 ((i : Int) + (j : Int)) 1 = (((i + j) / 2 : Nat) : Int) := by
    unfold shw
    show Int.fdiv ((i : Int) + (j : Int)) 2 = _
    rw [Int.fdiv_eq_ediv_of_nonneg _ (by omega)]
    omega
  rw [e1, e2, e3]
  exact wr_eq _ _ (by show (-9223372036854775808 : Int) ≤ _; omega) (by show _ ≤ (9223372036854775807 : Int); omega)
end Go.Proofs
end
section
/- Plain facts of clocks: stamps held against each other, the least of what waits, where a message waits. -/


namespace Go.Proofs
open Go.Tm
set_option linter.unusedSimpArgs false

def stW (w : TWait) : TStamp := ⟨w.Time, w.Message.Id⟩
def ltS (a b : TStamp) : Prop := a.Time < b.Time ∨ (a.Time = b.Time ∧ a.Id < b.Id)
instance (a b : TStamp) : Decidable (ltS a b) := by unfold ltS; infer_instance
theorem ltS_trans {a b c : TStamp} (h : ltS a b) (k : ltS b c) : ltS a c := by unfold ltS at *; omega
theorem ltS_irrefl (a : TStamp) : ¬ ltS a a := by unfold ltS; omega
theorem ltS_total {a b : TStamp} (h : a.Id ≠ b.Id) (k : ¬ ltS b a) : ltS a b := by unfold ltS at *; omega
theorem or2 (x y : Int) : m_cmp_Or_int [x, y] = some (if x = 0 then y else x) := by
  rw [m_cmp_Or_int, m_cmp_Or_int_loop1]
  by_cases hx : x = 0
  · rw [if_neg (by simpa using hx), m_cmp_Or_int_loop1, if_pos hx]
    by_cases hy : y = 0
    · rw [if_neg (by simpa using hy), m_cmp_Or_int_loop1]; simp [hy]
    · rw [if_pos hy]; rfl
  · rw [if_pos hx, if_neg hx]; rfl
theorem cmp_eq (x y : Int) : m_cmp_Compare_int x y = some (if x < y then -1 else if x > y then 1 else 0) := by
  have e : ∀ z : Int, m_cmp_isNaN_int z = some false := fun z => by rw [m_cmp_isNaN_int]; simp
  rw [m_cmp_Compare_int, e, e]
  simp only [Option.bind_some, Bool.false_eq_true, if_false]
  split
  · rfl
  · split <;> rfl
theorem less_eq (a b : TStamp) : m_stamp_Less a b = some (decide (ltS a b)) := by
  rw [m_stamp_Less, cmp_eq, cmp_eq]
  simp only [Option.bind_some, or2, Option.some.injEq, decide_eq_decide, ltS]
  by_cases h1 : a.Time < b.Time
  · simp [h1]
  · by_cases h2 : a.Time > b.Time
    · simp [h1, h2]; omega
    · have : a.Time = b.Time := by omega
      by_cases h3 : a.Id < b.Id
      · simp [this, h3]
      · by_cases h4 : a.Id > b.Id <;> simp [this, h3, h4]
theorem order_eq (a b : TWait) : m_skeen_order a b = some (if ltS (stW a) (stW b) then -1 else if ltS (stW b) (stW a) then 1 else 0) := by
  simp only [m_skeen_order, m_skeen_of, Option.bind_some, less_eq, decide_eq_true_eq]
  show (if ltS (stW a) (stW b) then _ else if ltS (stW b) (stW a) then _ else _) = _
  split
  · rfl
  · split <;> rfl

/-! ## The least -/
def minW : TWait → List TWait → TWait
  | m, [] => m
  | m, x :: l => minW (if ltS (stW x) (stW m) then x else m) l
theorem minW_mem : ∀ (l : List TWait) (m : TWait), minW m l = m ∨ minW m l ∈ l := by
  intro l
  induction l with
  | nil => intro m; exact .inl rfl
  | cons x l ih =>
    intro m
    rw [minW]
    rcases ih (if ltS (stW x) (stW m) then x else m) with h | h
    · rw [h]; split
      · exact .inr (by simp)
      · exact .inl rfl
    · exact .inr (List.mem_cons_of_mem _ h)
theorem minW_le : ∀ (l : List TWait) (m : TWait), ¬ ltS (stW m) (stW (minW m l)) ∧ ∀ x ∈ l, ¬ ltS (stW x) (stW (minW m l)) := by
  intro l
  induction l with
  | nil => intro m; exact ⟨ltS_irrefl _, by simp⟩
  | cons x l ih =>
    intro m
    rw [minW]
    obtain ⟨h1, h2⟩ := ih (if ltS (stW x) (stW m) then x else m)
    have key : ¬ ltS (stW m) (stW (minW (if ltS (stW x) (stW m) then x else m) l)) ∧ ¬ ltS (stW x) (stW (minW (if ltS (stW x) (stW m) then x else m) l)) := by
      by_cases h : ltS (stW x) (stW m)
      · rw [if_pos h] at h1 ⊢
        exact ⟨fun k => h1 (ltS_trans h k), h1⟩
      · rw [if_neg h] at h1 ⊢
        refine ⟨h1, fun k => ?_⟩
        have := @ltS_trans
        unfold ltS at *; omega
    refine ⟨key.1, fun y hy => ?_⟩
    rcases List.mem_cons.1 hy with rfl | hy
    · exact key.2
    · exact h2 y hy

theorem min_loop (l : List TWait) (hl : l.length < 1000000) : ∀ (fu k : Nat) (m : TWait), l.length - k < fu → k ≤ l.length →
    m_slices_MinFunc_Wait_Wait_loop1 l m_skeen_order fu m.Message.Id m.Message.Groups m.Message.Topic m.Message.Key m.Message.Body m.Time m.Final (k : Int)
      = some (let r := minW m (l.drop k); (r.Message.Id, r.Message.Groups, r.Message.Topic, r.Message.Key, r.Message.Body, r.Time, r.Final)) := by
  intro fu
  induction fu with
  | zero => intro k m h; omega
  | succ fu ih =>
    intro k m h hk
    rw [m_slices_MinFunc_Wait_Wait_loop1]
    by_cases hlt : k < l.length
    · have hd := List.drop_eq_getElem_cons hlt
      have hg : l.getD (k : Int).toNat default = l[k] := by simp [List.getD, List.getElem?_eq_getElem hlt]
      have hw : wr .i64 ((k : Int) + 1) = ((k + 1 : Nat) : Int) := wr_eq _ _ (by show (-9223372036854775808 : Int) ≤ _; omega) (by show _ ≤ (9223372036854775807 : Int); omega)
      rw [if_pos (by omega), if_pos (by omega), hg, order_eq, hd, minW]
      show Option.bind (Option.bind (some (if ltS (stW l[k]) (stW m) then (-1 : Int) else if ltS (stW m) (stW l[k]) then 1 else 0)) _) _ = _
      simp only [Option.bind_some]
      by_cases hc : ltS (stW l[k]) (stW m)
      · simp only [hc, if_true]
        rw [if_pos (by decide), if_pos (by omega)]
        simp only [Option.bind_some]
        rw [hw, ih (k + 1) l[k] (by omega) (by omega)]
      · simp only [hc, if_false]
        rw [if_neg (by split <;> decide)]
        simp only [Option.bind_some]
        rw [hw, ih (k + 1) m (by omega) (by omega)]
    · rw [if_neg (by omega), List.drop_of_length_le (by omega), minW]
theorem min_eq (y : TWait) (l : List TWait) (hl : l.length < 900000) : m_slices_MinFunc_Wait_Wait (y :: l) m_skeen_order = some (minW y l) := by
  rw [m_slices_MinFunc_Wait_Wait, if_neg (by simp; omega), if_pos (by simp)]
  have := min_loop (y :: l) (by simp; omega) ((y :: l).length + 1) 1 y (by simp; omega) (by simp)
  rw [show ((1 : Nat) : Int) = 1 from rfl] at this
  have e : (y :: l).getD 0 default = y := rfl
  rw [e, this]
  rfl
theorem minw_loop (l : List TWait) (f : TWait → TWait → Option Int) : ∀ (fu : Nat) (a : Int) (b : List Int) (c : Int) (d e : List UInt8) (g : Int) (h : Bool) (i : Int), m_slices_MinFunc_Wait_Wait_w_loop1 l f fu a b c d e g h i = m_slices_MinFunc_Wait_Wait_loop1 l f fu a b c d e g h i := by
  intro fu
  induction fu with
  | zero => intros; rfl
  | succ fu ih =>
    intros
    rw [m_slices_MinFunc_Wait_Wait_w_loop1, m_slices_MinFunc_Wait_Wait_loop1]
    simp only [ih]
theorem minw_eq (y : TWait) (l : List TWait) (hl : l.length < 900000) : m_slices_MinFunc_Wait_Wait_w (y :: l) m_skeen_order = some (minW y l) := by
  rw [← min_eq y l hl, m_slices_MinFunc_Wait_Wait_w, m_slices_MinFunc_Wait_Wait]
  simp only [minw_loop]

/-! ## Where a message waits -/
def IdOk (n : Int) : Prop := 0 ≤ n ∧ n ≤ 6291455
def IdsUp (l : List TWait) : Prop := l.Pairwise fun a b => a.Message.Id < b.Message.Id
theorem find1 (w : TWait) (id : Int) (h1 : IdOk w.Message.Id) (h2 : IdOk id) : m_skeen_clock_find_1 w id = some (w.Message.Id - id) := by
  rw [m_skeen_clock_find_1]
  unfold IdOk at *
  rw [wr_eq _ _ (by show (-9223372036854775808 : Int) ≤ _; omega) (by show _ ≤ (9223372036854775807 : Int); omega)]

/-- the place of an id among rising ones -/
def plc (id : Int) : List TWait → Nat
  | [] => 0
  | w :: l => if w.Message.Id < id then plc id l + 1 else 0
theorem plc_le (id : Int) : ∀ l, plc id l ≤ l.length := by
  intro l
  induction l with
  | nil => simp [plc]
  | cons w l ih => rw [plc]; split <;> simp <;> omega
theorem plc_lt (id : Int) : ∀ (l : List TWait), IdsUp l → ∀ (x : Nat) (h : x < l.length), (l[x].Message.Id < id ↔ x < plc id l) := by
  intro l
  induction l with
  | nil => intro _ x h; simp at h
  | cons w l ih =>
    intro hu x h
    have hu' := List.pairwise_cons.1 hu
    rw [plc]
    cases x with
    | zero => simp only [List.getElem_cons_zero]; split <;> simp [*]
    | succ x =>
      simp only [List.getElem_cons_succ]
      have hx : x < l.length := by simpa using h
      have := ih hu'.2 x hx
      split
      · rw [this]; omega
      · rename_i hw
        have := hu'.1 l[x] (List.getElem_mem hx)
        constructor
        · intro _; omega
        · intro h; omega
theorem bs_loop (l : List TWait) (id : Int) (hl : l.length < 1000000) (hu : IdsUp l) (hi : ∀ w ∈ l, IdOk w.Message.Id) (h2 : IdOk id) : ∀ (fu i j : Nat), j - i < fu → i ≤ plc id l → plc id l ≤ j → j ≤ l.length →
    m_slices_BinarySearchFunc_Wait_Wait_int_loop1 l id m_skeen_clock_find_1 fu (i : Int) (j : Int) = some ((plc id l : Nat) : Int) := by
  intro fu
  induction fu with
  | zero => intro i j h; omega
  | succ fu ih =>
    intro i j h h1 h3 h4
    rw [m_slices_BinarySearchFunc_Wait_Wait_int_loop1]
    by_cases hij : i < j
    · have hm : (i + j) / 2 < l.length := by omega
      have hg : l.getD (((i + j) / 2 : Nat) : Int).toNat default = l[(i + j) / 2] := by rw [Int.toNat_natCast]; simp [List.getD, List.getElem?_eq_getElem hm]
      have e : wr .i64 ((((i + j) / 2 : Nat) : Int) + 1) = (((i + j) / 2 + 1 : Nat) : Int) := wr_eq _ _ (by show (-9223372036854775808 : Int) ≤ _; omega) (by show _ ≤ (9223372036854775807 : Int); omega)
      rw [if_pos (by omega), half_eq i j (by omega), if_pos ⟨by omega, by omega⟩, hg, find1 _ _ (hi _ (List.getElem_mem hm)) h2, e]
      simp only [Option.bind_some]
      have hp := plc_lt id l hu _ hm
      by_cases hc : l[(i + j) / 2].Message.Id < id
      · rw [if_pos (by omega)]
        exact ih _ _ (by omega) (by have := hp.1 hc; omega) h3 h4
      · rw [if_neg (by omega)]
        exact ih _ _ (by omega) h1 (by have : ¬ _ := fun k => hc (hp.2 k); omega) (by omega)
    · rw [if_neg (by omega)]
      have : i = plc id l := by omega
      rw [this]
theorem plc_at (id : Int) (l : List TWait) (hu : IdsUp l) : (∃ w ∈ l, w.Message.Id = id) ↔ ∃ h : plc id l < l.length, l[plc id l].Message.Id = id := by
  constructor
  · rintro ⟨w, hw, rfl⟩
    obtain ⟨x, hx, rfl⟩ := List.getElem_of_mem hw
    have h1 : ¬ x < plc l[x].Message.Id l := fun k => by have := (plc_lt _ l hu x hx).2 k; omega
    have h2 : plc l[x].Message.Id l ≤ x := by omega
    have h3 : plc l[x].Message.Id l < l.length := by omega
    refine ⟨h3, ?_⟩
    have h4 : ¬ l[plc l[x].Message.Id l].Message.Id < l[x].Message.Id := fun k => by have := (plc_lt _ l hu _ h3).1 k; omega
    rcases Nat.lt_or_eq_of_le h2 with h5 | h5
    · have := List.pairwise_iff_getElem.1 hu _ _ h3 hx h5
      omega
    · simp only [h5]
  · rintro ⟨h, e⟩
    exact ⟨_, List.getElem_mem h, e⟩
theorem find_eq (c : Tskeen_clock) (id : Int) (hl : c.Skeen.Waits.length < 1000000) (hu : IdsUp c.Skeen.Waits) (hi : ∀ w ∈ c.Skeen.Waits, IdOk w.Message.Id) (h2 : IdOk id) :
    m_skeen_clock_find c id = some (((plc id c.Skeen.Waits : Nat) : Int), decide (∃ w ∈ c.Skeen.Waits, w.Message.Id = id)) := by
  obtain ⟨⟨ck, l, dn⟩⟩ := c
  simp only at hl hu hi ⊢
  have hb := bs_loop l id hl hu hi h2 (l.length + 1) 0 l.length (by omega) (by omega) (plc_le id l) (by omega)
  rw [m_skeen_clock_find, m_slices_BinarySearchFunc_Wait_Wait_int]
  simp only
  have e0 : ((0 : Nat) : Int) = 0 := rfl
  rw [e0] at hb
  rw [hb]
  simp only [Option.bind_some]
  rw [if_pos (by intro h; omega)]
  have hp := plc_at id l hu
  by_cases hc : plc id l < l.length
  · have hg : l.getD ((plc id l : Nat) : Int).toNat default = l[plc id l] := by rw [Int.toNat_natCast]; simp [List.getD, List.getElem?_eq_getElem hc]
    rw [if_pos (by omega), hg, find1 _ _ (hi _ (List.getElem_mem hc)) h2]
    simp only [Option.bind_some, Option.some.injEq, Prod.mk.injEq, true_and]
    rw [decide_eq_true (by omega : ((plc id l : Nat) : Int) < (l.length : Int)), Bool.true_and]
    by_cases hx : ∃ w ∈ l, w.Message.Id = id
    · obtain ⟨h3, h4⟩ := hp.1 hx
      simp only [hx, decide_true]
      simp; omega
    · simp only [hx, decide_false]
      have : ¬ l[plc id l].Message.Id = id := fun k => hx (hp.2 ⟨hc, k⟩)
      simp; omega
  · rw [if_neg (by omega)]
    have : ¬ ∃ w ∈ l, w.Message.Id = id := fun k => hc (hp.1 k).1
    simp only [Option.bind_some, this, decide_false]
    rw [decide_eq_false (by omega), Bool.false_and]
theorem ixS_loop (f : TStamp → Option Bool) (g : TStamp → Bool) (hf : ∀ x, f x = some (g x)) (l : List TStamp) : ∀ n : Nat, (l.any g = true → ∃ k : Nat, m_slices_IndexFunc_Stamp_Stamp_loop1 f l n = some (.inl (k : Int))) ∧ (l.any g = false → m_slices_IndexFunc_Stamp_Stamp_loop1 f l n = some (.inr ())) := by
  induction l with
  | nil => intro n; exact ⟨(fun h => by cases h), fun _ => rfl⟩
  | cons y l ih =>
    intro n
    rw [m_slices_IndexFunc_Stamp_Stamp_loop1, hf, List.any_cons]
    cases hg : g y with
    | true => exact ⟨fun _ => ⟨n, by simp⟩, fun h => by cases h⟩
    | false => simpa using ih (n + 1)
theorem done_eq (c : Tskeen_clock) (id : Int) : m_skeen_clock_done c id = some (c.Skeen.Done.any fun x => x.Id == id) := by
  rw [m_skeen_clock_done, m_slices_ContainsFunc_Stamp_Stamp, m_slices_IndexFunc_Stamp_Stamp]
  have hf : ∀ x : TStamp, (fun x0 => m_skeen_clock_done_1 x0 id) x = some (x.Id == id) := fun x => rfl
  cases h : c.Skeen.Done.any fun x => x.Id == id with
  | true => obtain ⟨k, hk⟩ := (ixS_loop _ _ hf c.Skeen.Done 0).1 h; rw [hk]; simp
  | false => rw [(ixS_loop _ _ hf c.Skeen.Done 0).2 h]; simp
end Go.Proofs
end
section
/- Plain facts of clocks: which ones may be. -/

namespace Go.Proofs
open Go.Tm
set_option linter.unusedSimpArgs false

theorem in_eq (a b c : Int) : m_command_in a b c = some (decide (b ≤ a ∧ a ≤ c)) := by
  rw [m_command_in]; by_cases h : b ≤ a <;> by_cases k : a ≤ c <;> simp [h, k]
instance (n : Int) : Decidable (IdOk n) := by unfold IdOk; infer_instance
theorem cid_eq (a : Int) : m_command_id a = some (decide (IdOk a)) := by
  rw [m_command_id, in_eq, Option.bind_some]; rfl
def MsgOk (m : TMessage) : Prop := m_command_CheckMessage m = some 0
theorem msg_loop (m : TMessage) : ∀ (l : List Int) (n : Nat) (b : Bool), ∃ r, m_command_CheckMessage_loop1 m l n b = some r := by
  intro l
  induction l with
  | nil => intro n b; exact ⟨b, rfl⟩
  | cons y l ih =>
    intro n b
    rw [m_command_CheckMessage_loop1, in_eq]
    cases b with
    | true => simp only [if_true, Option.bind_some]; exact ih _ _
    | false => simp only [Bool.false_eq_true, if_false, Option.bind_some]; exact ih _ _
theorem msg_tot (m : TMessage) : (∃ e, m_command_CheckMessage m = some e) ∧ (m_command_CheckMessage m = some 0 → IdOk m.Id) := by
  obtain ⟨b, hb⟩ := msg_loop m m.Groups 0 ((decide ((m.Groups.length : Int) ≥ 1)) && (decide ((m.Groups.length : Int) ≤ 4)))
  have key : m_command_CheckMessage m = some (if ((((¬ (b = true)) ∨ (¬ (decide (IdOk m.Id) = true))) ∨ (¬ (decide (0 ≤ m.Topic ∧ m.Topic ≤ 3) = true))) ∨ ((m.Key.length : Int) > 16)) ∨ ((m.Body.length : Int) > 64) then 120 else 0) := by
    rw [m_command_CheckMessage, hb]
    simp only [Option.bind_some, cid_eq, in_eq]
    cases b with
    | true =>
      simp only [not_true_eq_false, not_false_eq_true, if_true, Option.bind_some, false_or]
      by_cases hi : IdOk m.Id
      · simp only [hi, decide_true, not_true_eq_false, not_false_eq_true, if_true, Option.bind_some, false_or]
        split <;> rfl
      · simp only [hi, decide_false, Bool.false_eq_true, not_false_eq_true, not_true_eq_false, if_false, Option.bind_some, true_or, if_true]
    | false => simp
  refine ⟨⟨_, key⟩, fun h => ?_⟩
  rw [key] at h
  by_cases hi : IdOk m.Id
  · exact hi
  · simp [hi] at h
theorem MsgOk.id {m : TMessage} (h : MsgOk m) : IdOk m.Id := (msg_tot m).2 h

def StampOk (x : TStamp) : Prop := 0 ≤ x.Time ∧ x.Time ≤ 1073741824 ∧ 0 ≤ x.Id ∧ x.Id < 6291456
instance (x : TStamp) : Decidable (StampOk x) := by unfold StampOk; infer_instance
theorem stc_eq (x : TStamp) : m_stamp_Check x = some (if StampOk x then 0 else 8) := by
  rw [m_stamp_Check]
  by_cases h : StampOk x
  · rw [if_pos h, if_neg (by unfold StampOk at h; omega)]
  · rw [if_neg h, if_pos (by unfold StampOk at h; omega)]

theorem mget_mput (k i v : Int) : ∀ m : List (Int × Int), mget k (mput i v m) = if k = i then some v else mget k m := by
  intro m
  induction m with
  | nil => simp [mput, mget]
  | cons x m ih =>
    rw [mput]
    by_cases h : i = x.1
    · rw [if_pos h]; simp only [mget]
      by_cases hk : k = i
      · simp [hk]
      · simp [hk, show k ≠ x.1 from fun e => hk (e.trans h.symm)]
    · rw [if_neg h]; simp only [mget]
      by_cases hx : k = x.1
      · simp [hx, show ¬ x.1 = i from fun e => h e.symm]
      · rw [if_neg hx, ih, if_neg hx]

def DOk (c : Int) (D : List TStamp) : Prop := (∀ x ∈ D, StampOk x ∧ 1 ≤ x.Time ∧ x.Time ≤ c) ∧ D.Pairwise ltS ∧ (D.map TStamp.Id).Nodup
theorem DOk.pre {c : Int} {D E : List TStamp} (h : DOk c (D ++ E)) : DOk c D :=
  ⟨fun x hx => h.1 x (List.mem_append_left _ hx), (List.pairwise_append.1 h.2.1).1, by have := h.2.2; rw [List.map_append] at this; exact (List.nodup_append.1 this).1⟩
theorem ltS_last {D : List TStamp} (h : D.Pairwise ltS) {p : TStamp} (hp : D.getLast? = some p) : ∀ x ∈ D, x = p ∨ ltS x p := by
  obtain ⟨E, rfl⟩ := List.getLast?_eq_some_iff.1 hp
  intro x hx
  rcases List.mem_append.1 hx with hx | hx
  · exact .inr ((List.pairwise_append.1 h).2.2 x hx p (by simp))
  · simp at hx; exact .inl hx
theorem DOk.snoc {c : Int} {D : List TStamp} (h : DOk c D) (y : TStamp) : DOk c (D ++ [y]) ↔ (StampOk y ∧ 1 ≤ y.Time ∧ y.Time ≤ c) ∧ (∀ p, D.getLast? = some p → ltS p y) ∧ y.Id ∉ D.map TStamp.Id := by
  constructor
  · intro k
    refine ⟨k.1 y (by simp), fun p hp => ?_, fun hm => ?_⟩
    · exact (List.pairwise_append.1 k.2.1).2.2 p (List.mem_of_getLast? hp) y (by simp)
    · have := k.2.2; rw [List.map_append] at this
      exact (List.nodup_append.1 this).2.2 _ hm _ (by simp) rfl
  · rintro ⟨h1, h2, h3⟩
    refine ⟨fun x hx => ?_, ?_, ?_⟩
    · rcases List.mem_append.1 hx with hx | hx
      · exact h.1 x hx
      · simp at hx; subst hx; exact h1
    · rw [List.pairwise_append]
      refine ⟨h.2.1, by simp, fun x hx z hz => ?_⟩
      simp at hz; subst hz
      cases hl : D.getLast? with
      | none => rw [List.getLast?_eq_none_iff] at hl; subst hl; simp at hx
      | some p =>
        rcases ltS_last h.2.1 hl x hx with rfl | hh
        · exact h2 _ hl
        · exact ltS_trans hh (h2 _ hl)
    · rw [List.map_append, List.nodup_append]
      refine ⟨h.2.2, by simp, fun a ha b hb e => ?_⟩
      simp at hb; subst hb; subst e; exact h3 ha

def Mp (D : List TStamp) (m : List (Int × Int)) : Prop := ∀ k, ((mget k m).getD 0 > 0 ↔ k ∈ D.map TStamp.Id)
theorem Mp.snoc {D : List TStamp} {m : List (Int × Int)} (h : Mp D m) (y : TStamp) : Mp (D ++ [y]) (mput y.Id 1 m) := by
  intro k
  rw [mget_mput]
  by_cases e : k = y.Id
  · simp [e]
  · rw [if_neg e, h k]; simp [e]

theorem ck1 (s : TSkeen) : ∀ (l pre : List TStamp) (m : List (Int × Int)) (n3 n4 : Int), DOk s.Clock pre → Mp pre m → (∀ x, pre.getLast? = some x → x = ⟨n3, n4⟩) →
    (DOk s.Clock (pre ++ l) → ∃ m' a b, m_skeen_Check_loop1 s l pre.length m n3 n4 = some (.inr (m', a, b)) ∧ Mp (pre ++ l) m' ∧ ∀ x, (pre ++ l).getLast? = some x → x = ⟨a, b⟩) ∧
    (¬ DOk s.Clock (pre ++ l) → m_skeen_Check_loop1 s l pre.length m n3 n4 = some (.inl 8)) := by
  intro l
  induction l with
  | nil =>
    intro pre m n3 n4 h1 h2 h3
    rw [List.append_nil]
    exact ⟨fun _ => ⟨m, n3, n4, rfl, h2, h3⟩, fun h => absurd h1 h⟩
  | cons y l ih =>
    intro pre m n3 n4 h1 h2 h3
    have ea : pre ++ y :: l = (pre ++ [y]) ++ l := by simp
    have hs := h1.snoc y
    have el : (pre ++ [y]).length = pre.length + 1 := by simp
    have hlast : ∀ x, (pre ++ [y]).getLast? = some x → x = ⟨y.Time, y.Id⟩ := by
      intro x hx; simp at hx; exact hx.symm
    -- the round's test
    have key : ∀ k : Option (Int ⊕ (List (Int × Int) × Int × Int)), (DOk s.Clock (pre ++ [y]) → k = m_skeen_Check_loop1 s l (pre.length + 1) (mput y.Id 1 m) y.Time y.Id) → (¬ DOk s.Clock (pre ++ [y]) → k = some (.inl 8)) → m_skeen_Check_loop1 s (y :: l) pre.length m n3 n4 = k := by
      intro k k1 k2
      rw [m_skeen_Check_loop1, stc_eq]
      simp only [Option.bind_some, less_eq]
      by_cases c1 : StampOk y ∧ 1 ≤ y.Time ∧ y.Time ≤ s.Clock
      · have e1 : ¬ ((¬ (if StampOk y then (0 : Int) else 8) = 0 ∨ y.Time < 1) ∨ y.Time > s.Clock) := by
          rw [if_pos c1.1]; omega
        by_cases c2 : pre.length = 0
        · have hp : pre = [] := List.length_eq_zero_iff.1 c2
          have hl : ∀ p, pre.getLast? = some p → ltS p y := by subst hp; simp
          rw [if_neg (by rw [c2]; simp)]
          simp only [Option.bind_some]
          by_cases c3 : y.Id ∈ pre.map TStamp.Id
          · rw [if_pos (.inr ((h2 _).2 c3)), k2 (fun h => (hs.1 h).2.2 c3)]
          · rw [if_neg, k1 (hs.2 ⟨c1, hl, c3⟩)]
            rintro ((hh | hh) | hh)
            · exact e1 hh
            · omega
            · exact c3 ((h2 _).1 hh)
        · obtain ⟨p, hp⟩ : ∃ p, pre.getLast? = some p := by
            cases hq : pre.getLast? with
            | none => rw [List.getLast?_eq_none_iff] at hq; subst hq; simp at c2
            | some p => exact ⟨p, rfl⟩
          have ep := h3 p hp
          rw [if_pos ⟨e1, by omega⟩]
          simp only [Option.bind_some, decide_eq_true_eq]
          by_cases c4 : ltS ⟨n3, n4⟩ y
          · by_cases c3 : y.Id ∈ pre.map TStamp.Id
            · rw [if_pos (.inr ((h2 _).2 c3)), k2 (fun h => (hs.1 h).2.2 c3)]
            · rw [if_neg, k1 (hs.2 ⟨c1, fun q hq => by rw [hp] at hq; cases hq; rw [ep]; exact c4, c3⟩)]
              rintro ((hh | hh) | hh)
              · exact e1 hh
              · exact hh.2 c4
              · exact c3 ((h2 _).1 hh)
          · rw [if_pos (.inl (.inr ⟨by omega, c4⟩)), k2 (fun h => c4 (by have := (hs.1 h).2.1 p hp; rwa [ep] at this))]
      · have e1 : ((¬ (if StampOk y then (0 : Int) else 8) = 0 ∨ y.Time < 1) ∨ y.Time > s.Clock) := by
          by_cases c0 : StampOk y
          · rw [if_pos c0]; have := c1; simp only [c0, true_and] at this; omega
          · rw [if_neg c0]; exact .inl (.inl (by decide))
        rw [if_neg (by rintro ⟨hh, _⟩; exact hh e1)]
        simp only [Option.bind_some]
        rw [if_pos (.inl (.inl e1)), k2 (fun h => c1 (hs.1 h).1)]
    rw [ea]
    by_cases hd : DOk s.Clock (pre ++ [y])
    · have := ih (pre ++ [y]) (mput y.Id 1 m) y.Time y.Id hd (h2.snoc y) hlast
      rw [el] at this
      rw [key _ (fun _ => rfl) (fun h => absurd hd h)]
      exact this
    · refine ⟨fun h => absurd h.pre hd, fun _ => key _ (fun h => absurd h hd) (fun _ => rfl)⟩

def W1 (c : Int) (D : List TStamp) (w : TWait) : Prop := MsgOk w.Message ∧ 1 ≤ w.Time ∧ w.Time ≤ c ∧ (∀ x ∈ D, x.Id ≠ w.Message.Id) ∧ ∀ x, D.getLast? = some x → ltS x (stW w)
def WOk (c : Int) (D : List TStamp) (W : List TWait) : Prop := (∀ w ∈ W, W1 c D w) ∧ IdsUp W
theorem WOk.pre {c : Int} {D : List TStamp} {V W : List TWait} (h : WOk c D (V ++ W)) : WOk c D V := ⟨fun w hw => h.1 w (List.mem_append_left _ hw), (List.pairwise_append.1 h.2).1⟩
theorem ids_last {W : List TWait} (h : IdsUp W) {p : TWait} (hp : W.getLast? = some p) : ∀ x ∈ W, x = p ∨ x.Message.Id < p.Message.Id := by
  obtain ⟨E, rfl⟩ := List.getLast?_eq_some_iff.1 hp
  intro x hx
  rcases List.mem_append.1 hx with hx | hx
  · exact .inr ((List.pairwise_append.1 h).2.2 x hx p (by simp))
  · simp at hx; exact .inl hx
theorem WOk.snoc {c : Int} {D : List TStamp} {W : List TWait} (h : WOk c D W) (y : TWait) : WOk c D (W ++ [y]) ↔ W1 c D y ∧ ∀ p, W.getLast? = some p → p.Message.Id < y.Message.Id := by
  constructor
  · intro k
    exact ⟨k.1 y (by simp), fun p hp => (List.pairwise_append.1 k.2).2.2 p (List.mem_of_getLast? hp) y (by simp)⟩
  · rintro ⟨h1, h2⟩
    refine ⟨fun x hx => ?_, ?_⟩
    · rcases List.mem_append.1 hx with hx | hx
      · exact h.1 x hx
      · simp at hx; subst hx; exact h1
    · unfold IdsUp
      rw [List.pairwise_append]
      refine ⟨h.2, by simp, fun x hx z hz => ?_⟩
      simp at hz; subst hz
      cases hl : W.getLast? with
      | none => rw [List.getLast?_eq_none_iff] at hl; subst hl; simp at hx
      | some p =>
        rcases ids_last h.2 hl x hx with rfl | hh
        · exact h2 _ hl
        · have := h2 _ hl; omega

theorem ck2 (s : TSkeen) (m : List (Int × Int)) (a b : Int) (hm : Mp s.Done m) (hab : ∀ x, s.Done.getLast? = some x → x = ⟨a, b⟩) : ∀ (l pre : List TWait), s.Waits = pre ++ l → WOk s.Clock s.Done pre →
    (WOk s.Clock s.Done (pre ++ l) → m_skeen_Check_loop2 s m a b l pre.length = some (.inr ())) ∧ (¬ WOk s.Clock s.Done (pre ++ l) → m_skeen_Check_loop2 s m a b l pre.length = some (.inl 8)) := by
  intro l
  induction l with
  | nil =>
    intro pre _ h1
    rw [List.append_nil]
    exact ⟨fun _ => rfl, fun h => absurd h1 h⟩
  | cons y l ih =>
    intro pre hw h1
    have ea : pre ++ y :: l = (pre ++ [y]) ++ l := by simp
    have hs := h1.snoc y
    have el : (pre ++ [y]).length = pre.length + 1 := by simp
    have hprev : ∀ p, pre.getLast? = some p → s.Waits.getD (pre.length - 1) default = p := by
      intro p hp
      obtain ⟨E, rfl⟩ := List.getLast?_eq_some_iff.1 hp
      rw [hw]; simp [List.getD]
    obtain ⟨⟨e, he⟩, _⟩ := msg_tot y.Message
    have hmo : MsgOk y.Message ↔ e = 0 := by unfold MsgOk; rw [he]; simp
    have key : ∀ k : Option (Int ⊕ Unit), (WOk s.Clock s.Done (pre ++ [y]) → k = m_skeen_Check_loop2 s m a b l (pre.length + 1)) → (¬ WOk s.Clock s.Done (pre ++ [y]) → k = some (.inl 8)) → m_skeen_Check_loop2 s m a b (y :: l) pre.length = k := by
      intro k k1 k2
      rw [m_skeen_Check_loop2, he]
      simp only [Option.bind_some, m_skeen_of, less_eq]
      let T1 : Prop := ((((¬ (e = 0) ∨ y.Time < 1) ∨ y.Time > s.Clock) ∨ (((pre.length : Int) > 0) ∧ y.Message.Id ≤ (s.Waits.getD (pre.length - 1) default).Message.Id)) ∨ ((mget y.Message.Id m).getD 0 > 0))
      have t1 : ¬ T1 ↔ (MsgOk y.Message ∧ 1 ≤ y.Time ∧ y.Time ≤ s.Clock ∧ (∀ x ∈ s.Done, x.Id ≠ y.Message.Id)) ∧ (∀ p, pre.getLast? = some p → p.Message.Id < y.Message.Id) := by
        have h3 : ((mget y.Message.Id m).getD 0 > 0) ↔ ¬ ∀ x ∈ s.Done, x.Id ≠ y.Message.Id := by
          rw [hm]; simp
        have h4 : (((pre.length : Int) > 0) ∧ y.Message.Id ≤ (s.Waits.getD (pre.length - 1) default).Message.Id) ↔ ¬ ∀ p, pre.getLast? = some p → p.Message.Id < y.Message.Id := by
          cases hq : pre.getLast? with
          | none => rw [List.getLast?_eq_none_iff] at hq; subst hq; simp
          | some p =>
            rw [hprev p hq]
            have : pre.length > 0 := by
              rcases Nat.eq_zero_or_pos pre.length with h0 | h0
              · rw [List.length_eq_zero_iff.1 h0] at hq; simp at hq
              · exact h0
            constructor
            · rintro ⟨_, h5⟩ h6; have := h6 p rfl; omega
            · intro h5
              refine ⟨by omega, ?_⟩
              apply Decidable.byContradiction
              intro h6
              exact h5 fun q hq' => by cases hq'; omega
        show ¬ ((((¬ (e = 0) ∨ y.Time < 1) ∨ y.Time > s.Clock) ∨ _) ∨ _) ↔ _
        rw [h3, h4, hmo]
        constructor
        · intro h
          refine ⟨⟨?_, ?_, ?_, ?_⟩, ?_⟩
          · apply Decidable.byContradiction; intro q; exact h (.inl (.inl (.inl (.inl q))))
          · apply Decidable.byContradiction; intro q; exact h (.inl (.inl (.inl (.inr (by omega)))))
          · apply Decidable.byContradiction; intro q; exact h (.inl (.inl (.inr (by omega))))
          · apply Classical.byContradiction; intro q; exact h (.inr q)
          · apply Classical.byContradiction; intro q; exact h (.inl (.inr q))
        · rintro ⟨⟨q1, q2, q3, q4⟩, q5⟩ ((((q | q) | q) | q) | q)
          · exact q q1
          · omega
          · omega
          · exact q q5
          · exact q q4
      by_cases c1 : T1
      · have c1' : ¬ (¬ T1 ∧ (s.Done.length : Int) > 0) := fun h => h.1 c1
        show Option.bind (if ¬ T1 ∧ (s.Done.length : Int) > 0 then _ else _) _ = k
        rw [if_neg c1']
        simp only [Option.bind_some]
        show Option.bind (if ¬ T1 ∧ (s.Done.length : Int) > 0 then _ else _) _ = k
        rw [if_neg c1']
        simp only [Option.bind_some]
        rw [if_pos (.inl c1), k2]
        intro h
        have := hs.1 h
        exact t1.2 ⟨⟨this.1.1, this.1.2.1, this.1.2.2.1, this.1.2.2.2.1⟩, this.2⟩ c1
      · have q := t1.1 c1
        by_cases c2 : s.Done = []
        · have c1' : ¬ (¬ T1 ∧ (s.Done.length : Int) > 0) := by rw [c2]; simp
          show Option.bind (if ¬ T1 ∧ (s.Done.length : Int) > 0 then _ else _) _ = k
          rw [if_neg c1']
          simp only [Option.bind_some]
          show Option.bind (if ¬ T1 ∧ (s.Done.length : Int) > 0 then _ else _) _ = k
          rw [if_neg c1']
          simp only [Option.bind_some]
          rw [if_neg, k1 (hs.2 ⟨⟨q.1.1, q.1.2.1, q.1.2.2.1, q.1.2.2.2, by rw [c2]; simp⟩, q.2⟩)]
          rintro (h | h)
          · exact c1 h
          · rw [c2] at h; simp at h
        · obtain ⟨p, hp⟩ : ∃ p, s.Done.getLast? = some p := by
            cases hq : s.Done.getLast? with
            | none => rw [List.getLast?_eq_none_iff] at hq; exact absurd hq c2
            | some p => exact ⟨p, rfl⟩
          have hpos : (s.Done.length : Int) > 0 := by
            have := List.length_pos_iff.2 c2; omega
          have ep := hab p hp
          show Option.bind (if ¬ T1 ∧ (s.Done.length : Int) > 0 then _ else _) _ = k
          rw [if_pos ⟨c1, hpos⟩]
          simp only [Option.bind_some]
          show Option.bind (if ¬ T1 ∧ (s.Done.length : Int) > 0 then _ else _) _ = k
          rw [if_pos ⟨c1, hpos⟩]
          simp only [Option.bind_some, decide_eq_true_eq]
          show (if T1 ∨ ((s.Done.length : Int) > 0 ∧ ¬ ltS ⟨a, b⟩ (stW y)) then _ else _) = k
          by_cases c3 : ltS ⟨a, b⟩ (stW y)
          · rw [if_neg, k1 (hs.2 ⟨⟨q.1.1, q.1.2.1, q.1.2.2.1, q.1.2.2.2, fun x hx => by rw [hab x hx]; exact c3⟩, q.2⟩)]
            rintro (h | h)
            · exact c1 h
            · exact h.2 c3
          · rw [if_pos (.inr ⟨hpos, c3⟩), k2]
            intro h
            exact c3 (by have := (hs.1 h).1.2.2.2.2 p hp; rwa [ep] at this)
    rw [ea]
    by_cases hd : WOk s.Clock s.Done (pre ++ [y])
    · have := ih (pre ++ [y]) (by rw [hw, ea]) hd
      rw [el] at this
      rw [key _ (fun _ => rfl) (fun h => absurd hd h)]
      exact this
    · exact ⟨fun h => absurd h.pre hd, fun _ => key _ (fun h => absurd h hd) (fun _ => rfl)⟩

structure V (s : TSkeen) : Prop where
  c0 : 0 ≤ s.Clock
  c1 : s.Clock ≤ 1073741824
  lw : s.Waits.length ≤ 200
  ld : s.Done.length ≤ 200
  d : DOk s.Clock s.Done
  w : WOk s.Clock s.Done s.Waits
  m : ∀ y l, s.Waits = y :: l → (minW y l).Final = false
theorem sk_check (s : TSkeen) : ∃ e, m_skeen_Check s = some e ∧ (e = 0 ↔ V s) := by
  rw [m_skeen_Check]
  by_cases h0 : ((s.Clock < 0 ∨ s.Clock > 1073741824) ∨ (s.Waits.length : Int) > 200) ∨ (s.Done.length : Int) > 200
  · rw [if_pos h0]
    refine ⟨8, rfl, (by intro h; cases h), fun h => ?_⟩
    have := h.c0; have := h.c1; have := h.lw; have := h.ld; omega
  rw [if_neg h0]
  have d0 : DOk s.Clock [] := ⟨by simp, by simp, by simp⟩
  have hc := ck1 s s.Done [] [] 0 0 d0 (by intro k; simp [mget]) (by simp)
  rw [List.nil_append] at hc
  by_cases hd : DOk s.Clock s.Done
  · obtain ⟨m, a, b, h1, h2, h3⟩ := hc.1 hd
    have h1 : m_skeen_Check_loop1 s s.Done 0 [] 0 0 = _ := h1
    rw [h1]
    simp only [Option.bind_some]
    have w0 : WOk s.Clock s.Done [] := ⟨by simp, by simp [IdsUp]⟩
    have hc2 := ck2 s m a b h2 h3 s.Waits [] rfl w0
    rw [List.nil_append] at hc2
    by_cases hw : WOk s.Clock s.Done s.Waits
    · have h4 : m_skeen_Check_loop2 s m a b s.Waits 0 = _ := hc2.1 hw
      rw [h4]
      simp only [Option.bind_some]
      cases hl : s.Waits with
      | nil =>
        refine ⟨0, by simp, fun _ => ⟨by omega, by omega, by omega, by omega, hd, hw, by rw [hl]; simp⟩, fun _ => rfl⟩
      | cons y l =>
        rw [if_pos (by simp only [List.length_cons]; omega), min_eq y l (by rw [hl] at h0; simp at h0; omega)]
        simp only [Option.bind_some]
        by_cases hf : (minW y l).Final = true
        · rw [if_pos ⟨by simp only [List.length_cons]; omega, hf⟩]
          refine ⟨8, rfl, (by intro h; cases h), fun h => ?_⟩
          have := h.m y l hl
          rw [hf] at this; cases this
        · rw [if_neg (fun h => hf h.2)]
          refine ⟨0, rfl, fun _ => ⟨by omega, by omega, by omega, by omega, hd, hw, fun y' l' h => ?_⟩, fun _ => rfl⟩
          rw [hl] at h; cases h
          simpa using hf
    · have h4 : m_skeen_Check_loop2 s m a b s.Waits 0 = _ := hc2.2 hw
      rw [h4]
      simp only [Option.bind_some]
      exact ⟨8, rfl, (by intro h; cases h), fun h => absurd h.w hw⟩
  · have h1 : m_skeen_Check_loop1 s s.Done 0 [] 0 0 = _ := hc.2 hd
    rw [h1]
    simp only [Option.bind_some]
    exact ⟨8, rfl, (by intro h; cases h), fun h => absurd h.d hd⟩
end Go.Proofs
end
section
/- Plain facts of clocks: what a command does. -/

namespace Go.Proofs
open Go.Tm
set_option linter.unusedSimpArgs false

theorem msg_false (m : TMessage) : ∀ (l : List Int) (n : Nat), m_command_CheckMessage_loop1 m l n false = some false := by
  intro l
  induction l with
  | nil => intro n; rfl
  | cons y l ih => intro n; rw [m_command_CheckMessage_loop1]; simpa using ih (n + 1)
theorem MsgOk.groups {m : TMessage} (h : MsgOk m) : m.Groups.length ≤ 4 := by
  apply Decidable.byContradiction
  intro hc
  unfold MsgOk at h
  have e : ((decide ((m.Groups.length : Int) ≥ 1)) && (decide ((m.Groups.length : Int) ≤ 4))) = false := by
    rw [Bool.and_eq_false_iff]; right; simp; omega
  rw [m_command_CheckMessage, e, msg_false] at h
  simp [cid_eq, in_eq] at h

theorem sm_eq (a b : TMessage) : m_command_SameMessage a b = some (decide (a = b)) := by
  rw [m_command_SameMessage, equal_eq]
  obtain ⟨a1, a2, a3, a4, a5⟩ := a
  obtain ⟨b1, b2, b3, b4, b5⟩ := b
  by_cases h : a1 = b1
  · by_cases h2 : a2 = b2 <;> by_cases h3 : a3 = b3 <;> by_cases h4 : a4 = b4 <;> by_cases h5 : a5 = b5 <;> simp [h, h2, h3, h4, h5]
  · simp [h]
theorem cs_eq (a b : TCommand) : m_command_Same a b = some (decide (a = b)) := by
  rw [m_command_Same, sm_eq, equal_eq]
  obtain ⟨a1, a2, a3, a4, a5, a6, a7, a8⟩ := a
  obtain ⟨b1, b2, b3, b4, b5, b6, b7, b8⟩ := b
  by_cases h : a1 = b1
  · by_cases h2 : a2 = b2
    · by_cases h3 : a3 = b3
      · by_cases h4 : a4 = b4
        · by_cases h5 : a5 = b5 <;> by_cases h6 : a6 = b6 <;> by_cases h7 : a7 = b7 <;> by_cases h8 : a8 = b8 <;> simp [h, h2, h3, h4, h5, h6, h7, h8]
        · simp [h, h2, h3, h4]
      · simp [h, h2, h3]
    · simp [h, h2]
  · simp [h]

theorem plain_tot (c : TCommand) : ∃ p ok, m_command_plain c = some (p, ok) ∧ (c.Kind = 1 → ok = true → MsgOk c.Message) ∧ (c.Kind = 2 → ok = true → IdOk c.Id ∧ 1 ≤ c.Time ∧ c.Time ≤ 1073741824) := by
  rw [m_command_plain, cid_eq]
  simp only [Option.bind_some]
  obtain ⟨v2, h2⟩ : ∃ v2, (if decide (IdOk c.Id) = true then m_command_in c.Topic 0 3 else some default) = some v2 := by split <;> exact ⟨_, by first | exact in_eq _ _ _ | rfl⟩
  rw [h2]
  simp only [Option.bind_some]
  obtain ⟨v3, h3⟩ : ∃ v3, (if decide (IdOk c.Id) = true ∧ v2 = true then m_command_in c.N 0 1073741824 else some default) = some v3 := by split <;> exact ⟨_, by first | exact in_eq _ _ _ | rfl⟩
  rw [h3]
  simp only [Option.bind_some]
  by_cases k0 : c.Kind = 0
  · rw [if_pos k0]; exact ⟨_, _, rfl, by intro h; omega, by intro h; omega⟩
  rw [if_neg k0]
  by_cases k1 : c.Kind = 1
  · rw [if_pos k1]
    obtain ⟨e, he⟩ := (msg_tot c.Message).1
    rw [he]
    exact ⟨_, _, rfl, fun _ h => by rw [MsgOk, he]; simp at h; rw [h], by intro h; omega⟩
  rw [if_neg k1]
  by_cases k2 : c.Kind = 2
  · rw [if_pos k2]
    by_cases hi : IdOk c.Id
    · simp only [hi, decide_true, if_true, Option.bind_some, in_eq]
      exact ⟨_, _, rfl, by intro h; omega, fun _ h => ⟨trivial, by simpa using h⟩⟩
    · simp only [hi, decide_false, Bool.false_eq_true, if_false, Option.bind_some]
      exact ⟨_, _, rfl, by intro h; omega, fun _ h => by simp at h⟩
  rw [if_neg k2]
  by_cases k3 : c.Kind = 3
  · rw [if_pos k3, qcheck_eq]
    exact ⟨_, _, rfl, by intro h; omega, by intro h; omega⟩
  rw [if_neg k3]
  by_cases k4 : c.Kind = 4
  · rw [if_pos k4]
    obtain ⟨v8, h8⟩ : ∃ v8, (if (decide (IdOk c.Id) = true ∧ v2 = true) ∧ v3 = true then m_command_in c.Who 0 7 else some default) = some v8 := by split <;> exact ⟨_, by first | exact in_eq _ _ _ | rfl⟩
    rw [h8]
    exact ⟨_, _, rfl, by intro h; omega, by intro h; omega⟩
  rw [if_neg k4]
  by_cases k5 : c.Kind = 5
  · rw [if_pos k5]
    simp only [Option.bind_some, k5]
    exact ⟨_, _, rfl, by intro h; omega, by intro h; omega⟩
  · rw [if_neg k5]
    simp only [Option.bind_some]
    by_cases k6 : (c.Kind == 6) = true
    · rw [if_pos k6]; exact ⟨_, _, rfl, by intro h; omega, by intro h; omega⟩
    · rw [if_neg k6]; exact ⟨_, _, rfl, by intro h; omega, by intro h; omega⟩
theorem cmd_tot (c : TCommand) : ∃ e, m_command_Check c = some e ∧ (e = 0 → (c.Kind = 1 → MsgOk c.Message) ∧ (c.Kind = 2 → IdOk c.Id ∧ 1 ≤ c.Time ∧ c.Time ≤ 1073741824)) := by
  obtain ⟨p, ok, h, h1, h2⟩ := plain_tot c
  rw [m_command_Check, h]
  simp only [Option.bind_some, cs_eq]
  cases ok with
  | false => exact ⟨120, by simp, by intro h; cases h⟩
  | true =>
    simp only [not_true_eq_false, not_false_eq_true, if_true, Option.bind_some, false_or]
    split
    · exact ⟨120, rfl, by intro h; cases h⟩
    · exact ⟨0, rfl, fun _ => ⟨fun k => h1 k rfl, fun k => h2 k rfl⟩⟩
/-! ## Copies -/
theorem clone_int (l : List Int) (h : l.length * 8 ≤ 140737488355328) : m_slices_Clone_int_int l = some l := by rw [m_slices_Clone_int_int, if_pos h]
theorem twin_loop (v : List TWait) (hv : v.length < 1000000) : ∀ (fu k : Nat) (l : List TWait), l.length = v.length → v.length - k < fu → k ≤ v.length → (∀ w ∈ l, w.Message.Groups.length * 8 ≤ 140737488355328) → m_skeen_Twin_loop1 v fu l (k : Int) = some l := by
  intro fu
  induction fu with
  | zero => intro k l _ h; omega
  | succ fu ih =>
    intro k l hl h hk hg
    rw [m_skeen_Twin_loop1]
    by_cases hlt : k < v.length
    · have hk' : k < l.length := by omega
      have hgd : l.getD (k : Int).toNat default = l[k] := by simp [List.getD, List.getElem?_eq_getElem hk']
      have hw : wr .i64 ((k : Int) + 1) = ((k + 1 : Nat) : Int) := wr_eq _ _ (by show (-9223372036854775808 : Int) ≤ _; omega) (by show _ ≤ (9223372036854775807 : Int); omega)
      rw [if_pos (by omega), if_pos (by omega), hgd, clone_int _ (hg _ (List.getElem_mem hk'))]
      simp only [Option.bind_some]
      have e : l.set (k : Int).toNat l[k] = l := by rw [Int.toNat_natCast]; simp
      rw [if_pos (by omega)]
      show m_skeen_Twin_loop1 v fu (l.set (k : Int).toNat l[k]) (wr .i64 ((k : Int) + 1)) = _
      rw [e, hw]
      exact ih (k + 1) l hl (by omega) (by omega) hg
    · rw [if_neg (by omega), if_pos (by omega)]
theorem twin_sk (s : TSkeen) (h1 : s.Waits.length ≤ 1000) (h2 : s.Done.length ≤ 1000) (h3 : ∀ w ∈ s.Waits, w.Message.Groups.length * 8 ≤ 140737488355328) : m_skeen_Twin s = some s := by
  rw [m_skeen_Twin, m_slices_Clone_Wait_Wait, if_pos (by omega), m_slices_Clone_Stamp_Stamp, if_pos (by omega)]
  simp only [Option.bind_some]
  have := twin_loop s.Waits (by omega) (s.Waits.length + 1) 0 s.Waits rfl (by omega) (by omega) h3
  rw [show ((0 : Nat) : Int) = 0 from rfl] at this
  rw [this]
  rfl

/-! ## Under way -/
structure J (c : Int) (W : List TWait) (D : List TStamp) : Prop where
  c1 : c ≤ 1073741824
  d : DOk c D
  w : WOk c D W
theorem V.j {s : TSkeen} (h : V s) : J s.Clock s.Waits s.Done := ⟨h.c1, h.d, h.w⟩
theorem J.ids {c : Int} {W : List TWait} {D : List TStamp} (h : J c W D) : ∀ w ∈ W, IdOk w.Message.Id := fun w hw => (h.w.1 w hw).1.id
theorem J.mono {c c' : Int} {W : List TWait} {D : List TStamp} (h : J c W D) (h1 : c ≤ c') (h2 : c' ≤ 1073741824) : J c' W D :=
  ⟨h2, ⟨fun x hx => by have := h.d.1 x hx; exact ⟨this.1, this.2.1, by omega⟩, h.d.2⟩, ⟨fun w hw => by have := h.w.1 w hw; exact ⟨this.1, this.2.1, by have := this.2.2.1; omega, this.2.2.2⟩, h.w.2⟩⟩
theorem at_id {W : List TWait} (hu : IdsUp W) {a b : TWait} (ha : a ∈ W) (hb : b ∈ W) (h : a.Message.Id = b.Message.Id) : a = b := by
  obtain ⟨i, hi, rfl⟩ := List.getElem_of_mem ha
  obtain ⟨j, hj, rfl⟩ := List.getElem_of_mem hb
  rcases Nat.lt_trichotomy i j with hh | hh | hh
  · have := List.pairwise_iff_getElem.1 hu i j hi hj hh; omega
  · subst hh; rfl
  · have := List.pairwise_iff_getElem.1 hu j i hj hi hh; omega

theorem final_eq (s : TSkeen) (id t : Int) (hl : s.Waits.length < 1000000) (hj : J s.Clock s.Waits s.Done) (hi : IdOk id) :
    (m_skeen_clock_final ⟨s⟩ id t = some ⟨s⟩ ∧ ∀ w ∈ s.Waits, w.Message.Id = id → w.Final = true ∨ t < w.Time) ∨
    ∃ (k : Nat) (hk : k < s.Waits.length), s.Waits[k].Message.Id = id ∧ s.Waits[k].Final = false ∧ s.Waits[k].Time ≤ t ∧ m_skeen_clock_final ⟨s⟩ id t = some ⟨⟨max s.Clock t, s.Waits.set k ⟨s.Waits[k].Message, t, true⟩, s.Done⟩⟩ := by
  rw [m_skeen_clock_final, find_eq ⟨s⟩ id hl hj.w.2 hj.ids hi]
  simp only [Option.bind_some]
  have hp := plc_at id s.Waits hj.w.2
  by_cases hx : ∃ w ∈ s.Waits, w.Message.Id = id
  · obtain ⟨hk, he⟩ := hp.1 hx
    have hgd : s.Waits.getD ((plc id s.Waits : Nat) : Int).toNat default = s.Waits[plc id s.Waits] := by rw [Int.toNat_natCast]; simp [List.getD, List.getElem?_eq_getElem hk]
    have hgd2 : ∀ x : TWait, (s.Waits.set ((plc id s.Waits : Nat) : Int).toNat x).getD ((plc id s.Waits : Nat) : Int).toNat default = x := by
      intro x; rw [Int.toNat_natCast]; simp [List.getD, hk]
    simp only [hx, decide_true, not_true_eq_false, not_false_eq_true, false_or, hgd, hgd2]
    rw [if_pos (by intro _; omega), if_pos (by intro _; omega)]
    by_cases hf : s.Waits[plc id s.Waits].Final = true ∨ t < s.Waits[plc id s.Waits].Time
    · left
      rw [if_pos hf]
      refine ⟨rfl, fun w hw hid => ?_⟩
      have := at_id hj.w.2 hw (List.getElem_mem hk) (hid.trans he.symm)
      rw [this]; exact hf
    · right
      rw [if_neg hf, if_pos (by omega), if_pos (by simp only [List.length_set]; omega)]
      refine ⟨plc id s.Waits, hk, he, ?_, by omega, ?_⟩
      · cases hq : s.Waits[plc id s.Waits].Final with
        | false => rfl
        | true => exact absurd (.inl hq) hf
      · rw [Int.toNat_natCast, List.set_set]
  · left
    have hx' : ∀ w ∈ s.Waits, w.Message.Id ≠ id := fun w hw he => hx ⟨w, hw, he⟩
    simp only [hx, decide_false, Bool.false_eq_true, not_false_eq_true, not_true_eq_false, false_implies, if_true, true_or]
    exact ⟨trivial, fun w hw he => absurd he (hx' w hw)⟩

theorem J.set {c t : Int} {W : List TWait} {D : List TStamp} (h : J c W D) (k : Nat) (hk : k < W.length) (h1 : W[k].Time ≤ t) (h2 : t ≤ 1073741824) : J (max c t) (W.set k ⟨W[k].Message, t, true⟩) D := by
  have h' := h.mono (c' := max c t) (Int.le_max_left _ _) (by have := h.c1; omega)
  refine ⟨h'.c1, h'.d, fun w hw => ?_, ?_⟩
  · rcases List.mem_or_eq_of_mem_set hw with hw | rfl
    · exact h'.w.1 w hw
    · have hm := h'.w.1 _ (List.getElem_mem hk)
      refine ⟨hm.1, by have := hm.2.1; show 1 ≤ t; omega, Int.le_max_right _ _, hm.2.2.2.1, fun x hx => ?_⟩
      have hl := hm.2.2.2.2 x hx
      show ltS x ⟨t, W[k].Message.Id⟩
      unfold ltS stW at *
      simp only at hl ⊢
      omega
  · have hu := h.w.2
    unfold IdsUp at hu ⊢
    rw [← List.pairwise_map (f := fun w : TWait => w.Message.Id) (R := fun a b => a < b)] at hu ⊢
    rw [List.map_set]
    have : (W.map fun w : TWait => w.Message.Id).set k W[k].Message.Id = W.map fun w : TWait => w.Message.Id := by
      apply List.ext_getElem
      · simp
      · intro i h1 h2
        rw [List.getElem_set]
        split
        · rename_i e; subst e; simp
        · rfl
    rw [this]
    exact hu

theorem assign_eq (s : TSkeen) (g : Int) (m : TMessage) (hl : s.Waits.length ≤ 200) (hc0 : 0 ≤ s.Clock) (hj : J s.Clock s.Waits s.Done) (hm : MsgOk m) :
    (∃ e, m_skeen_clock_assign ⟨s⟩ g m = some (e, ⟨s⟩)) ∨
    (g ∈ m.Groups ∧ s.Clock < 1073741824 ∧ s.Waits.length < 200 ∧ (∀ x ∈ s.Done, x.Id ≠ m.Id) ∧ (∀ w ∈ s.Waits, w.Message.Id ≠ m.Id) ∧
      m_skeen_clock_assign ⟨s⟩ g m = some (0, ⟨⟨s.Clock + 1, s.Waits.take (plc m.Id s.Waits) ++ ⟨m, s.Clock + 1, false⟩ :: s.Waits.drop (plc m.Id s.Waits), s.Done⟩⟩)) := by
  rw [m_skeen_clock_assign, find_eq ⟨s⟩ m.Id (by show s.Waits.length < 1000000; omega) hj.w.2 hj.ids hm.id, done_eq]
  simp only [Option.bind_some]
  by_cases hx : ∃ w ∈ s.Waits, w.Message.Id = m.Id
  · left
    simp only [hx, decide_true, not_true_eq_false, if_false, true_or, Option.bind_some, if_true]
    exact ⟨0, rfl⟩
  · have hx' : ∀ w ∈ s.Waits, w.Message.Id ≠ m.Id := fun w hw he => hx ⟨w, hw, he⟩
    simp only [hx, decide_false, Bool.false_eq_true, not_false_eq_true, if_true, false_or, Option.bind_some]
    cases hd : s.Done.any fun x => x.Id == m.Id with
    | true =>
      left
      simp only [not_true_eq_false, if_false, Option.bind_some, true_or, if_true]
      exact ⟨0, rfl⟩
    | false =>
      have hd' : ∀ x ∈ s.Done, x.Id ≠ m.Id := by
        intro x hxd he
        have := List.any_eq_false.1 hd x hxd
        simp [he] at this
      have hg := has_eq m.Groups g
      rw [m_quorum_Has] at hg
      have hg : m_slices_Contains_int_int m.Groups g = some (decide (g ∈ m.Groups)) := by
        cases hq : m_slices_Contains_int_int m.Groups g with
        | none => rw [hq] at hg; cases hg
        | some b => rw [hq] at hg; simpa using hg
      simp only [Bool.false_eq_true, not_false_eq_true, if_true, false_or, Option.bind_some, hg]
      by_cases hgm : g ∈ m.Groups
      · simp only [hgm, decide_true, not_true_eq_false, if_false]
        by_cases hfull : s.Clock = 1073741824 ∨ (s.Waits.length : Int) = 200
        · left; rw [if_pos hfull]; exact ⟨9, rfl⟩
        · right
          have hc1 := hj.c1
          rw [if_neg hfull, clone_int _ (by have := hm.groups; omega)]
          simp only [Option.bind_some]
          have hple := plc_le m.Id s.Waits
          rw [if_pos (by omega), if_pos (by omega), wr_eq _ _ (by show (-9223372036854775808 : Int) ≤ _; omega) (by show _ ≤ (9223372036854775807 : Int); omega), Int.toNat_natCast]
          exact ⟨trivial, by omega, by omega, hd', hx', rfl⟩
      · left
        simp only [hgm, decide_false, Bool.false_eq_true, not_false_eq_true, if_true]
        exact ⟨0, rfl⟩

theorem J.ins {c : Int} {W : List TWait} {D : List TStamp} (h : J c W D) (m : TMessage) (hm : MsgOk m) (h0 : 0 ≤ c) (h1 : c < 1073741824) (hD : ∀ x ∈ D, x.Id ≠ m.Id) (hW : ∀ w ∈ W, w.Message.Id ≠ m.Id) :
    J (c + 1) (W.take (plc m.Id W) ++ ⟨m, c + 1, false⟩ :: W.drop (plc m.Id W)) D := by
  have h' := h.mono (c' := c + 1) (by omega) (by omega)
  refine ⟨h'.c1, h'.d, fun w hw => ?_, ?_⟩
  · have : w = ⟨m, c + 1, false⟩ ∨ w ∈ W := by
      rcases List.mem_append.1 hw with hw | hw
      · exact .inr (List.mem_of_mem_take hw)
      · rcases List.mem_cons.1 hw with hw | hw
        · exact .inl hw
        · exact .inr (List.mem_of_mem_drop hw)
    rcases this with rfl | hw
    · refine ⟨hm, by show 1 ≤ c + 1; omega, Int.le_refl _, hD, fun x hx => ?_⟩
      have := (h.d.1 x (List.mem_of_getLast? hx)).2.2
      exact .inl (by show x.Time < c + 1; omega)
    · exact h'.w.1 w hw
  · have hu := h.w.2
    have hlt := plc_lt m.Id W hu
    have hple := plc_le m.Id W
    have t1 : ∀ w ∈ W.take (plc m.Id W), w.Message.Id < m.Id := by
      intro w hw
      obtain ⟨i, hi, rfl⟩ := List.getElem_of_mem hw
      rw [List.getElem_take]
      have : i < plc m.Id W := by simp at hi; omega
      exact (hlt i (by omega)).2 this
    have t2 : ∀ w ∈ W.drop (plc m.Id W), m.Id < w.Message.Id := by
      intro w hw
      have hwW := List.mem_of_mem_drop hw
      obtain ⟨i, hi, rfl⟩ := List.getElem_of_mem hw
      have hne := hW _ hwW
      rw [List.getElem_drop] at hne ⊢
      have hi' : plc m.Id W + i < W.length := by simp at hi; omega
      have : ¬ W[plc m.Id W + i].Message.Id < m.Id := fun k => by have := (hlt _ hi').1 k; omega
      omega
    unfold IdsUp
    rw [List.pairwise_append]
    refine ⟨hu.sublist (List.take_sublist _ _), List.pairwise_cons.2 ⟨t2, hu.sublist (List.drop_sublist _ _)⟩, fun a ha b hb => ?_⟩
    have ha' := t1 a ha
    rcases List.mem_cons.1 hb with rfl | hb
    · exact ha'
    · have := t2 b hb; omega

/-! ## What is delivered -/
theorem del_loop (c0 : Tskeen_clock) (c : Int) : ∀ (fu : Nat) (W : List TWait) (D : List TStamp) (M : List TMessage), W.length < fu → J c W D → W.length + D.length ≤ 1000 → M.length + W.length ≤ 1000 →
    ∃ (ws W' : List TWait), m_skeen_clock_deliver_loop1 c0 fu W D M = some (W', D ++ ws.map stW, M ++ ws.map TWait.Message) ∧ J c W' (D ++ ws.map stW) ∧ (∀ y l, W' = y :: l → (minW y l).Final = false) ∧
      (∀ w ∈ ws, w ∈ W ∧ w.Final = true) ∧ (∀ w ∈ W', w ∈ W) ∧ (∀ w ∈ W, w ∈ W' ∨ w ∈ ws) ∧ W'.length + ws.length = W.length := by
  intro fu
  induction fu with
  | zero => intro W D M h; omega
  | succ fu ih =>
    intro W D M h hj h1 h2
    rw [m_skeen_clock_deliver_loop1]
    cases hW : W with
    | nil =>
      refine ⟨[], [], by simp, by subst hW; simpa using hj, by simp, by simp, by simp, by simp, rfl⟩
    | cons y l =>
      rw [if_pos (by simp only [List.length_cons]; omega), minw_eq y l (by rw [hW] at h1; simp at h1; omega)]
      simp only [Option.bind_some]
      have hmem : minW y l ∈ W := by
        rw [hW]
        rcases minW_mem l y with hh | hh
        · rw [hh]; simp
        · exact List.mem_cons_of_mem _ hh
      by_cases hf : (minW y l).Final = true
      · rw [if_neg (by simp [hf])]
        have hfd := find_eq ⟨⟨c0.Skeen.Clock, W, D⟩⟩ (minW y l).Message.Id (by show W.length < 1000000; omega) hj.w.2 hj.ids (hj.ids _ hmem)
        rw [← hW, hfd]
        simp only [Option.bind_some]
        obtain ⟨hk, he⟩ := (plc_at (minW y l).Message.Id W hj.w.2).1 ⟨_, hmem, rfl⟩
        generalize hK : plc (minW y l).Message.Id W = K at hk he
        have hat : W[K] = minW y l := at_id hj.w.2 (List.getElem_mem hk) hmem he
        rw [if_pos (by omega), if_pos (by omega)]
        have e1 : m_skeen_of (minW y l) = some (stW (minW y l)) := rfl
        rw [e1]
        simp only [Option.bind_some, List.length_cons, List.length_nil, Int.toNat_natCast]
        have hWl : W.length = l.length + 1 := by rw [hW]; simp
        rw [if_pos (by omega), if_pos (by omega)]
        have hv := hj.w.1 _ hmem
        have hsub : ∀ w ∈ W.eraseIdx K, w ∈ W := fun w hw => List.mem_of_mem_eraseIdx hw
        have hne : ∀ w ∈ W.eraseIdx K, w.Message.Id ≠ (minW y l).Message.Id := by
          intro w hw hid
          obtain ⟨i, hi, hik, rfl⟩ := List.mem_eraseIdx_iff_getElem.1 hw
          have e2 := at_id hj.w.2 (List.getElem_mem hi) hmem hid
          rw [← hat] at hid
          rcases Nat.lt_or_gt_of_ne hik with hh | hh
          · have := List.pairwise_iff_getElem.1 hj.w.2 i K hi hk hh; omega
          · have := List.pairwise_iff_getElem.1 hj.w.2 K i hk hi hh; omega
        have hle : ∀ w ∈ W, ¬ ltS (stW w) (stW (minW y l)) := by
          intro w hw
          rw [hW] at hw
          rcases List.mem_cons.1 hw with rfl | hw
          · exact (minW_le l _).1
          · exact (minW_le l y).2 w hw
        have hid := hv.1.id
        have hJ : J c (W.eraseIdx K) (D ++ [stW (minW y l)]) := by
          refine ⟨hj.c1, (hj.d.snoc _).2 ⟨⟨⟨?_, ?_, hid.1, ?_⟩, hv.2.1, hv.2.2.1⟩, hv.2.2.2.2, fun hm => ?_⟩, fun w hw => ?_, hj.w.2.sublist (List.eraseIdx_sublist _ _)⟩
          · have := hv.2.1; show 0 ≤ (minW y l).Time; omega
          · have := hv.2.2.1; have := hj.c1; show (minW y l).Time ≤ 1073741824; omega
          · have := hid.2; show (minW y l).Message.Id < 6291456; omega
          · obtain ⟨x, hx, he2⟩ := List.mem_map.1 hm
            exact hv.2.2.2.1 x hx he2
          · have hw1 := hj.w.1 w (hsub w hw)
            refine ⟨hw1.1, hw1.2.1, hw1.2.2.1, fun x hx => ?_, fun x hx => ?_⟩
            · rcases List.mem_append.1 hx with hx | hx
              · exact hw1.2.2.2.1 x hx
              · simp at hx; subst hx; exact fun e => hne w hw e.symm
            · simp at hx; subst hx
              exact ltS_total (fun e => hne w hw e.symm) (hle w (hsub w hw))
        have hlen : (W.eraseIdx K).length = W.length - 1 := List.length_eraseIdx_of_lt hk
        obtain ⟨ws, W', g1, g2, g3, g4, g5, g6, g7⟩ := ih (W.eraseIdx K) (D ++ [stW (minW y l)]) (M ++ [(minW y l).Message]) (by omega) hJ (by simp; omega) (by simp; omega)
        refine ⟨minW y l :: ws, W', ?_, ?_, g3, ?_, ?_, ?_, ?_⟩
        · rw [g1]; simp
        · simpa using g2
        · intro w hw
          rcases List.mem_cons.1 hw with rfl | hw
          · exact ⟨hmem, hf⟩
          · exact ⟨hsub w (g4 w hw).1, (g4 w hw).2⟩
        · intro w hw; exact hsub w (g5 w hw)
        · intro w hw
          by_cases hwv : w = minW y l
          · right; simp [hwv]
          · have : w ∈ W.eraseIdx K := by
              obtain ⟨i, hi, rfl⟩ := List.getElem_of_mem hw
              exact List.mem_eraseIdx_iff_getElem.2 ⟨i, hi, fun e => hwv (by subst e; exact hat), rfl⟩
            rcases g6 w this with hh | hh
            · exact .inl hh
            · exact .inr (List.mem_cons_of_mem _ hh)
        · simp only [List.length_cons]; omega
      · rw [if_pos (by simpa using hf)]
        refine ⟨[], W, by simp [hW], by simpa using hj, fun y' l' hh => ?_, by simp, by intro w hw; rw [← hW]; exact hw, by intro w hw; left; rw [hW]; exact hw, by simp [hW]⟩
        rw [hW] at hh; cases hh; simpa using hf

/-! ## A command -/
/-- what waits, and the clock, behind a command, ahead of what is delivered -/
def Step (s : TSkeen) (g : Int) (c : TCommand) (W : List TWait) (ck : Int) : Prop :=
  (W = s.Waits ∧ ck = s.Clock) ∨
  (c.Kind = 1 ∧ g ∈ c.Message.Groups ∧ ck = s.Clock + 1 ∧ W = s.Waits.take (plc c.Message.Id s.Waits) ++ ⟨c.Message, s.Clock + 1, false⟩ :: s.Waits.drop (plc c.Message.Id s.Waits)) ∨
  (c.Kind = 2 ∧ ck = max s.Clock c.Time ∧ ∃ (k : Nat) (hk : k < s.Waits.length), s.Waits[k].Message.Id = c.Id ∧ s.Waits[k].Final = false ∧ s.Waits[k].Time ≤ c.Time ∧ W = s.Waits.set k ⟨s.Waits[k].Message, c.Time, true⟩)
def zSk : TSkeen := ⟨0, [], []⟩

theorem apply_bad (s : TSkeen) (g : Int) (c : TCommand) (h : ¬ V s) : ∃ e, e ≠ 0 ∧ m_skeen_Apply s g c = some (zSk, [], e) := by
  obtain ⟨e, he, hi⟩ := sk_check s
  have hne : e ≠ 0 := fun k => h (hi.1 k)
  rw [m_skeen_Apply, he]
  simp only [Option.bind_some, hne, not_false_eq_true, if_true]
  exact ⟨e, hne, rfl⟩
theorem check_ok {s : TSkeen} (h : V s) : m_skeen_Check s = some 0 := by
  obtain ⟨e, he, hi⟩ := sk_check s
  rw [he, hi.2 h]

theorem apply_ok (s : TSkeen) (g : Int) (c : TCommand) (h : V s) :
    (∃ e, e ≠ 0 ∧ m_skeen_Apply s g c = some (zSk, [], e) ∧ (0 ≤ g ∧ g < 4 → m_command_Check c = some 0 → c.Kind = 2 → s.Waits.length + s.Done.length > 200)) ∨
    ∃ (W : List TWait) (ck : Int) (ws W' : List TWait), Step s g c W ck ∧ m_skeen_Apply s g c = some (⟨ck, W', s.Done ++ ws.map stW⟩, ws.map TWait.Message, 0) ∧ V ⟨ck, W', s.Done ++ ws.map stW⟩ ∧ s.Clock ≤ ck ∧ 
      (∀ w ∈ ws, w ∈ W ∧ w.Final = true) ∧ (∀ w ∈ W', w ∈ W) ∧ (∀ w ∈ W, w ∈ W' ∨ w ∈ ws) ∧ W'.length + ws.length = W.length ∧ 
      (c.Kind = 2 → ∀ w ∈ s.Waits, w.Message.Id = c.Id → w.Final = false → w.Time ≤ c.Time → ∃ (k : Nat) (hk : k < s.Waits.length), s.Waits[k] = w ∧ W = s.Waits.set k ⟨w.Message, c.Time, true⟩) := by
  have hj := h.j
  have hlw := h.lw
  have hld := h.ld
  rw [m_skeen_Apply, check_ok h]
  simp only [Option.bind_some, not_true_eq_false, if_false]
  by_cases hg : g < 0 ∨ g ≥ 4
  · rw [if_pos hg]
    exact .inl ⟨2, by omega, rfl, by intro h; omega⟩
  rw [if_neg hg]
  obtain ⟨e, he, hc⟩ := cmd_tot c
  rw [he]
  simp only [Option.bind_some]
  by_cases he0 : e = 0
  case neg => rw [if_pos he0]; exact .inl ⟨e, he0, rfl, by intro _ h; exact absurd (Option.some.inj h) he0⟩
  obtain ⟨hc1, hc2⟩ := hc he0
  have htw : m_skeen_Twin s = some s := twin_sk s (by omega) (by omega) (fun w hw => by have := (hj.w.1 w hw).1.groups; omega)
  rw [if_neg (by omega), htw]
  simp only [Option.bind_some]
  -- the end: what is delivered
  have fin : ∀ (W : List TWait) (ck : Int), J ck W s.Done → 0 ≤ ck → W.length ≤ 200 → ∃ (ws W' : List TWait), m_skeen_clock_deliver ⟨⟨ck, W, s.Done⟩⟩ = some (ws.map TWait.Message, ⟨⟨ck, W', s.Done ++ ws.map stW⟩⟩) ∧
      ((s.Done ++ ws.map stW).length ≤ 200 → V ⟨ck, W', s.Done ++ ws.map stW⟩) ∧ (∀ w ∈ ws, w ∈ W ∧ w.Final = true) ∧ (∀ w ∈ W', w ∈ W) ∧ (∀ w ∈ W, w ∈ W' ∨ w ∈ ws) ∧ W'.length + ws.length = W.length := by
    intro W ck hJ h0 hl
    obtain ⟨ws, W', g1, g2, g3, g4, g5, g6, g7⟩ := del_loop ⟨⟨ck, W, s.Done⟩⟩ ck (W.length + 1) W s.Done [] (by omega) hJ (by omega) (by simp; omega)
    refine ⟨ws, W', ?_, fun hd => ⟨h0, g2.c1, by show W'.length ≤ 200; omega, hd, g2.d, g2.w, g3⟩, g4, g5, g6, g7⟩
    rw [m_skeen_clock_deliver, g1]
    simp
  by_cases k1 : c.Kind = 1
  · rw [if_pos k1]
    rcases assign_eq s g c.Message hlw h.c0 hj (hc1 k1) with ⟨e2, ha⟩ | ⟨a1, a2, a3, a4, a5, ha⟩
    · have ha' : m_skeen_clock_assign ⟨s⟩ g c.Message = _ := ha
      rw [ha']
      simp only [Option.bind_some]
      by_cases he2 : e2 = 0
      · rw [if_neg (by omega)]
        simp only [Option.bind_some]
        obtain ⟨ws, W', d1, d2, d3, d4, d5, d6⟩ := fin s.Waits s.Clock hj h.c0 hlw
        rw [d1]
        simp only [Option.bind_some]
        by_cases hfull : ((s.Done ++ ws.map stW).length : Int) > 200
        · rw [if_pos hfull]; exact .inl ⟨9, by omega, rfl, by intro _ _ h; omega⟩
        · rw [if_neg hfull]
          exact .inr ⟨s.Waits, s.Clock, ws, W', .inl ⟨rfl, rfl⟩, rfl, d2 (by omega), Int.le_refl _, d3, d4, d5, d6, by intro h; omega⟩
      · rw [if_pos he2]
        exact .inl ⟨e2, he2, rfl, by intro _ _ h; omega⟩
    · have ha' : m_skeen_clock_assign ⟨s⟩ g c.Message = _ := ha
      rw [ha']
      simp only [Option.bind_some, not_true_eq_false, if_false]
      have hpl := plc_le c.Message.Id s.Waits
      obtain ⟨ws, W', d1, d2, d3, d4, d5, d6⟩ := fin _ _ (hj.ins c.Message (hc1 k1) h.c0 a2 a4 a5) (by have := h.c0; omega) (by simp; omega)
      rw [d1]
      simp only [Option.bind_some]
      by_cases hfull : ((s.Done ++ ws.map stW).length : Int) > 200
      · rw [if_pos hfull]; exact .inl ⟨9, by omega, rfl, by intro _ _ h; omega⟩
      · rw [if_neg hfull]
        exact .inr ⟨_, s.Clock + 1, ws, W', .inr (.inl ⟨k1, a1, rfl, rfl⟩), rfl, d2 (by omega), by omega, d3, d4, d5, d6, by intro h; omega⟩
  rw [if_neg k1]
  by_cases k2 : c.Kind = 2
  · rw [if_pos k2]
    obtain ⟨i1, i2, i3⟩ := hc2 k2
    rcases final_eq s c.Id c.Time (by omega) hj i1 with ⟨hf, hno⟩ | ⟨k, hk, b1, b2, b3, hf⟩
    · have hf' : m_skeen_clock_final ⟨s⟩ c.Id c.Time = _ := hf
      rw [hf']
      simp only [Option.bind_some]
      obtain ⟨ws, W', d1, d2, d3, d4, d5, d6⟩ := fin s.Waits s.Clock hj h.c0 hlw
      rw [d1]
      simp only [Option.bind_some]
      by_cases hfull : ((s.Done ++ ws.map stW).length : Int) > 200
      · rw [if_pos hfull]
        refine .inl ⟨9, by omega, rfl, fun _ _ _ => ?_⟩
        simp at hfull; omega
      · rw [if_neg hfull]
        refine .inr ⟨s.Waits, s.Clock, ws, W', .inl ⟨rfl, rfl⟩, rfl, d2 (by omega), Int.le_refl _, d3, d4, d5, d6, fun _ w hw hid hfn ht => ?_⟩
        rcases hno w hw hid with hh | hh
        · rw [hfn] at hh; cases hh
        · omega
    · have hf' : m_skeen_clock_final ⟨s⟩ c.Id c.Time = _ := hf
      rw [hf']
      simp only [Option.bind_some]
      obtain ⟨ws, W', d1, d2, d3, d4, d5, d6⟩ := fin _ _ (hj.set k hk b3 i3) (by have := h.c0; have := Int.le_max_left s.Clock c.Time; omega) (by simpa using hlw)
      rw [d1]
      simp only [Option.bind_some]
      by_cases hfull : ((s.Done ++ ws.map stW).length : Int) > 200
      · rw [if_pos hfull]
        refine .inl ⟨9, by omega, rfl, fun _ _ _ => ?_⟩
        simp at hfull d6; omega
      · rw [if_neg hfull]
        refine .inr ⟨_, max s.Clock c.Time, ws, W', .inr (.inr ⟨k2, rfl, k, hk, b1, b2, b3, rfl⟩), rfl, d2 (by omega), Int.le_max_left _ _, d3, d4, d5, d6, fun _ w hw hid hfn ht => ?_⟩
        have := at_id hj.w.2 hw (List.getElem_mem hk) (hid.trans b1.symm)
        exact ⟨k, hk, this.symm, by rw [this]⟩
  · rw [if_neg k2]
    simp only [Option.bind_some]
    obtain ⟨ws, W', d1, d2, d3, d4, d5, d6⟩ := fin s.Waits s.Clock hj h.c0 hlw
    rw [d1]
    simp only [Option.bind_some]
    by_cases hfull : ((s.Done ++ ws.map stW).length : Int) > 200
    · rw [if_pos hfull]; exact .inl ⟨9, by omega, rfl, by intro _ _ h; omega⟩
    · rw [if_neg hfull]
      exact .inr ⟨s.Waits, s.Clock, ws, W', .inl ⟨rfl, rfl⟩, rfl, d2 (by omega), Int.le_refl _, d3, d4, d5, d6, by intro h; omega⟩
end Go.Proofs
end
section
/- The law SkeenAll in plain Lean. -/

namespace Go.Proofs
open Go.Tm
set_option linter.unusedSimpArgs false

theorem great_loop : ∀ (l : List TWait) (n : Nat) (k : Int), ∃ r, m_towncrierref15_Great_loop1 l n k = some r := by
  intro l
  induction l with
  | nil => intro n k; exact ⟨k, rfl⟩
  | cons y l ih =>
    intro n k
    rw [m_towncrierref15_Great_loop1_c]
    split
    · exact ih _ _
    · exact ⟨k, rfl⟩
theorem great_eq (s : TSkeen) : ∃ b, m_towncrierref15_Great s = some b ∧ (b = false → s.Waits.length ≤ 300 ∧ s.Done.length ≤ 300) := by
  obtain ⟨n, hn⟩ := great_loop s.Waits 0 0
  rw [m_towncrierref15_Great, hn]
  refine ⟨_, rfl, fun h => ?_⟩
  simp at h
  omega
theorem wr_ok (x : Int) (h : -9000000000000000000 ≤ x ∧ x ≤ 9000000000000000000) : wr .i64 x = x := wr_eq _ _ (by show (-9223372036854775808 : Int) ≤ _; omega) (by show _ ≤ (9223372036854775807 : Int); omega)

end Go.Proofs
end
section
/- The law SkeenRises in plain Lean. -/

namespace Go.Proofs
open Go.Tm
set_option linter.unusedSimpArgs false

theorem sameInts_loop (b : List Int) : ∀ (l : List Int) (n : Nat), n + l.length = b.length → m_towncrierref01_SameInts_loop1 b l n = some (if l = b.drop n then .inr () else .inl false) := by
  intro l
  induction l with
  | nil => intro n h; simp [m_towncrierref01_SameInts_loop1]; simp at h; omega
  | cons y l ih =>
    intro n h
    simp only [List.length_cons] at h
    have hn : n < b.length := by omega
    have hg : b.getD n default = b[n] := by simp [List.getD, List.getElem?_eq_getElem hn]
    have hd := List.drop_eq_getElem_cons hn
    rw [m_towncrierref01_SameInts_loop1, if_pos hn, hg]
    generalize b[n] = z at hd
    rw [hd]
    by_cases hy : y = z
    · rw [if_neg (by simpa using hy), ih (n + 1) (by omega)]
      simp only [hy, List.cons.injEq, true_and]
    · rw [if_pos hy]
      simp only [hy, List.cons.injEq, false_and, if_false]
theorem sameInts_eq (a b : List Int) : m_towncrierref01_SameInts a b = some (decide (a = b)) := by
  rw [m_towncrierref01_SameInts]
  by_cases h : (a.length : Int) = (b.length : Int)
  · rw [if_neg (by simpa using h), sameInts_loop b a 0 (by omega), List.drop_zero]
    by_cases hab : a = b <;> simp [hab]
  · rw [if_pos h]
    have : a ≠ b := fun hh => h (by rw [hh])
    simp [this]
theorem sm12_eq (a b : TMessage) : m_towncrierref12_SameMessage a b = some (decide (a = b)) := by
  rw [m_towncrierref12_SameMessage, sameInts_eq]
  obtain ⟨a1, a2, a3, a4, a5⟩ := a
  obtain ⟨b1, b2, b3, b4, b5⟩ := b
  by_cases h : a1 = b1
  · by_cases h2 : a2 = b2 <;> by_cases h3 : a3 = b3 <;> by_cases h4 : a4 = b4 <;> by_cases h5 : a5 = b5 <;> simp [h, h2, h3, h4, h5]
  · simp [h]
theorem ss_loop (b : List TStamp) : ∀ (l : List TStamp) (n : Nat), n + l.length = b.length → m_towncrierref15_SameStamps_loop1 b l n = some (if l = b.drop n then .inr () else .inl false) := by
  intro l
  induction l with
  | nil => intro n h; simp [m_towncrierref15_SameStamps_loop1]; simp at h; omega
  | cons y l ih =>
    intro n h
    simp only [List.length_cons] at h
    have hn : n < b.length := by omega
    have hg : b.getD n default = b[n] := by simp [List.getD, List.getElem?_eq_getElem hn]
    have hd := List.drop_eq_getElem_cons hn
    rw [m_towncrierref15_SameStamps_loop1, if_pos hn, hg]
    generalize b[n] = z at hd
    rw [hd]
    have he : (y.Time = z.Time ∧ y.Id = z.Id) ↔ y = z := by
      obtain ⟨y1, y2⟩ := y; obtain ⟨z1, z2⟩ := z; simp
    by_cases hy : y = z
    · rw [if_neg (by rw [he]; simpa using hy), ih (n + 1) (by omega)]
      simp only [hy, List.cons.injEq, true_and]
    · rw [if_pos (by rw [he]; exact hy)]
      simp only [hy, List.cons.injEq, false_and, if_false]
theorem ss_eq (a b : List TStamp) : m_towncrierref15_SameStamps a b = some (decide (a = b)) := by
  rw [m_towncrierref15_SameStamps]
  by_cases h : (a.length : Int) = (b.length : Int)
  · rw [if_neg (by simpa using h), ss_loop b a 0 (by omega), List.drop_zero]
    by_cases hab : a = b <;> simp [hab]
  · rw [if_pos h]
    have : a ≠ b := fun hh => h (by rw [hh])
    simp [this]

theorem rises_loop (l : List TStamp) (hl : l.length < 1000000) (hp : l.Pairwise ltS) : ∀ (fu i : Nat), l.length - i < fu → m_stamp_Rises_loop1 l fu (i : Int) = some (.inr ()) := by
  intro fu
  induction fu with
  | zero => intro i h; omega
  | succ fu ih =>
    intro i h
    have hw1 : wr .i64 ((l.length : Int) - 1) = (l.length : Int) - 1 := wr_ok _ (by omega)
    rw [m_stamp_Rises_loop1, hw1]
    by_cases hc : (i : Int) < max 0 ((l.length : Int) - 1)
    · have hi : i + 1 < l.length := by omega
      have hw : wr .i64 ((i : Int) + 1) = ((i + 1 : Nat) : Int) := wr_ok _ (by omega)
      have hg1 : l.getD (i : Int).toNat default = l[i] := by rw [Int.toNat_natCast]; simp [List.getD, List.getElem?_eq_getElem (show i < l.length by omega)]
      have hg2 : l.getD ((i + 1 : Nat) : Int).toNat default = l[i + 1] := by rw [Int.toNat_natCast]; simp [List.getD, List.getElem?_eq_getElem hi]
      rw [if_pos hc, if_pos (by omega), hw, if_pos (by omega), hg1, hg2, less_eq]
      simp only [Option.bind_some]
      rw [if_neg (by simpa using List.pairwise_iff_getElem.1 hp i (i + 1) (by omega) hi (by omega))]
      exact ih (i + 1) (by omega)
    · rw [if_neg hc]
theorem rises_eq (l : List TStamp) (hl : l.length < 1000000) (hp : l.Pairwise ltS) : m_stamp_Rises l = some true := by
  have := rises_loop l hl hp (l.length + 1) 0 (by omega)
  rw [show ((0 : Nat) : Int) = 0 from rfl] at this
  rw [m_stamp_Rises, this]; rfl

theorem long_loop : ∀ (l : List TCommand) (n : Nat), ∃ r, m_towncrierlaw15_long_loop1 l n = some r := by
  intro l
  induction l with
  | nil => intro n; exact ⟨_, rfl⟩
  | cons y l ih =>
    intro n
    rw [m_towncrierlaw15_long_loop1_c]
    split
    · split
      · exact ⟨_, rfl⟩
      · exact ih _
    · exact ⟨_, rfl⟩
theorem long_eq (l : List TCommand) : ∃ b, m_towncrierlaw15_long l = some b := by
  obtain ⟨r, hr⟩ := long_loop l 0
  rw [m_towncrierlaw15_long, hr]
  cases r with
  | inl b => exact ⟨b, rfl⟩
  | inr u => exact ⟨_, rfl⟩

/-! ## Where it came from -/
def As (a : TSkeen) (l : List TCommand) (g : Int) (m : TMessage) : Prop := (∃ w ∈ a.Waits, w.Message = m) ∨ ∃ c ∈ l, c.Kind = 1 ∧ c.Message = m ∧ g ∈ m.Groups
def Fi (a : TSkeen) (l : List TCommand) (x : TStamp) : Prop := (∃ w ∈ a.Waits, w.Final = true ∧ w.Message.Id = x.Id ∧ w.Time = x.Time) ∨ ∃ c ∈ l, c.Kind = 2 ∧ c.Id = x.Id ∧ c.Time = x.Time
theorem as1 (m : TMessage) : ∀ l : List TWait, m_towncrierlaw15_assigned_loop1 m l = some (if (∃ w ∈ l, w.Message = m) then .inl true else .inr ()) := by
  intro l
  induction l with
  | nil => simp [m_towncrierlaw15_assigned_loop1]
  | cons y l ih =>
    rw [m_towncrierlaw15_assigned_loop1, sm12_eq]
    simp only [Option.bind_some, decide_eq_true_eq]
    by_cases h : y.Message = m
    · rw [if_pos h, if_pos ⟨y, by simp, h⟩]
    · rw [if_neg h, ih]; simp [h]
theorem as3 (g : Int) : ∀ l : List Int, m_towncrierlaw15_assigned_loop3 g l = some (if g ∈ l then .inl true else .inr ()) := by
  intro l
  induction l with
  | nil => simp [m_towncrierlaw15_assigned_loop3]
  | cons y l ih =>
    rw [m_towncrierlaw15_assigned_loop3]
    by_cases h : y = g
    · rw [if_pos h, if_pos (by simp [h])]
    · rw [if_neg h, ih]; simp [show ¬ g = y from fun e => h e.symm]
theorem as2 (g : Int) (m : TMessage) : ∀ l : List TCommand, m_towncrierlaw15_assigned_loop2 g m l = some (if (∃ c ∈ l, c.Kind = 1 ∧ c.Message = m ∧ g ∈ m.Groups) then .inl true else .inr ()) := by
  intro l
  induction l with
  | nil => simp [m_towncrierlaw15_assigned_loop2]
  | cons y l ih =>
    rw [m_towncrierlaw15_assigned_loop2]
    by_cases hk : y.Kind = 1
    · simp only [hk, not_true_eq_false, not_false_eq_true, if_true, sm12_eq, Option.bind_some, false_or, decide_eq_true_eq]
      by_cases hm : y.Message = m
      · simp only [hm, not_true_eq_false, if_false, as3]
        by_cases hg : g ∈ m.Groups
        · simp only [hg, if_true, Option.bind_some]
          rw [if_pos ⟨y, by simp, hk, hm, trivial⟩]
        · simp only [hg, if_false, Option.bind_some, ih]
          simp
      · simp only [hm, not_false_eq_true, if_true, Option.bind_some, ih]
        simp [hm]
    · simp only [hk, not_false_eq_true, not_true_eq_false, if_false, Option.bind_some, true_or, if_true, ih]
      simp [hk]
theorem as_eq (a : TSkeen) (l : List TCommand) (g : Int) (m : TMessage) (h : As a l g m) : m_towncrierlaw15_assigned a l g m = some true := by
  rw [m_towncrierlaw15_assigned, as1, as2]
  rcases h with h | h
  · rw [if_pos h]; rfl
  · by_cases h' : ∃ w ∈ a.Waits, w.Message = m
    · rw [if_pos h']; rfl
    · rw [if_neg h', if_pos h]; rfl
theorem fi1 (x : TStamp) : ∀ l : List TWait, m_towncrierlaw15_finished_loop1 x l = some (if (∃ w ∈ l, w.Final = true ∧ w.Message.Id = x.Id ∧ w.Time = x.Time) then .inl true else .inr ()) := by
  intro l
  induction l with
  | nil => simp [m_towncrierlaw15_finished_loop1]
  | cons y l ih =>
    rw [m_towncrierlaw15_finished_loop1]
    by_cases h : (y.Final = true ∧ y.Message.Id = x.Id) ∧ y.Time = x.Time
    · rw [if_pos h, if_pos ⟨y, by simp, h.1.1, h.1.2, h.2⟩]
    · rw [if_neg h, ih]
      have : ¬ (y.Final = true ∧ y.Message.Id = x.Id ∧ y.Time = x.Time) := fun k => h ⟨⟨k.1, k.2.1⟩, k.2.2⟩
      simp [this]
theorem fi2 (x : TStamp) : ∀ l : List TCommand, m_towncrierlaw15_finished_loop2 x l = some (if (∃ c ∈ l, c.Kind = 2 ∧ c.Id = x.Id ∧ c.Time = x.Time) then .inl true else .inr ()) := by
  intro l
  induction l with
  | nil => simp [m_towncrierlaw15_finished_loop2]
  | cons y l ih =>
    rw [m_towncrierlaw15_finished_loop2]
    by_cases h : (y.Kind = 2 ∧ y.Id = x.Id) ∧ y.Time = x.Time
    · rw [if_pos h, if_pos ⟨y, by simp, h.1.1, h.1.2, h.2⟩]
    · rw [if_neg h, ih]
      have : ¬ (y.Kind = 2 ∧ y.Id = x.Id ∧ y.Time = x.Time) := fun k => h ⟨⟨k.1, k.2.1⟩, k.2.2⟩
      simp [this]
theorem fi_eq (a : TSkeen) (l : List TCommand) (x : TStamp) (h : Fi a l x) : m_towncrierlaw15_finished a l x = some true := by
  rw [m_towncrierlaw15_finished, fi1, fi2]
  rcases h with h | h
  · rw [if_pos h]; rfl
  · by_cases h' : ∃ w ∈ a.Waits, w.Final = true ∧ w.Message.Id = x.Id ∧ w.Time = x.Time
    · rw [if_pos h']; rfl
    · rw [if_neg h', if_pos h]; rfl

/-! ## The commands, one by one -/
theorem bad_loop (g : Int) (s : TSkeen) (hs : ¬ V s) (M : List TMessage) : ∀ l : List TCommand, m_towncrierlaw15_SkeenRises_loop1 g l s.Clock s.Waits s.Done M = some (.inr (s.Clock, s.Waits, s.Done, M)) := by
  intro l
  induction l with
  | nil => rfl
  | cons y l ih =>
    obtain ⟨e, he, ha⟩ := apply_bad s g y hs
    have ha' : m_skeen_Apply ⟨s.Clock, s.Waits, s.Done⟩ g y = _ := ha
    rw [m_towncrierlaw15_SkeenRises_loop1_c, ha']
    simp only [Option.bind_some, if_pos he]
    exact ih

theorem step_facts {a : TSkeen} {L : List TCommand} {g : Int} {s : TSkeen} {c : TCommand} {W : List TWait} {ck : Int} (hc : c ∈ L) (hs : Step s g c W ck)
    (h : ∀ w ∈ s.Waits, As a L g w.Message ∧ (w.Final = true → Fi a L (stW w))) : ∀ w ∈ W, As a L g w.Message ∧ (w.Final = true → Fi a L (stW w)) := by
  rcases hs with ⟨rfl, _⟩ | ⟨k1, k2, _, rfl⟩ | ⟨k1, _, k, hk, b1, b2, b3, rfl⟩
  · exact h
  · intro w hw
    rcases List.mem_append.1 hw with hw | hw
    · exact h w (List.mem_of_mem_take hw)
    · rcases List.mem_cons.1 hw with rfl | hw
      · exact ⟨.inr ⟨c, hc, k1, rfl, k2⟩, fun h => by cases h⟩
      · exact h w (List.mem_of_mem_drop hw)
  · intro w hw
    rcases List.mem_or_eq_of_mem_set hw with hw | rfl
    · exact h w hw
    · exact ⟨(h _ (List.getElem_mem hk)).1, fun _ => .inr ⟨c, hc, k1, b1.symm, rfl⟩⟩

theorem good_loop (a : TSkeen) (g : Int) (L : List TCommand) : ∀ (l : List TCommand) (s : TSkeen) (ws : List TWait), (∀ c ∈ l, c ∈ L) → V s → s.Done = a.Done ++ ws.map stW →
    (∀ w ∈ s.Waits, As a L g w.Message ∧ (w.Final = true → Fi a L (stW w))) → (∀ w ∈ ws, As a L g w.Message ∧ Fi a L (stW w)) →
    ∃ (s' : TSkeen) (ws' : List TWait), m_towncrierlaw15_SkeenRises_loop1 g l s.Clock s.Waits s.Done (ws.map TWait.Message) = some (.inr (s'.Clock, s'.Waits, s'.Done, ws'.map TWait.Message)) ∧ V s' ∧ s'.Done = a.Done ++ ws'.map stW ∧
      ∀ w ∈ ws', As a L g w.Message ∧ Fi a L (stW w) := by
  intro l
  induction l with
  | nil => intro s ws _ hs hd _ h2; exact ⟨s, ws, rfl, hs, hd, h2⟩
  | cons y l ih =>
    intro s ws hL hs hd h1 h2
    have hwl : ws.length ≤ s.Done.length := by rw [hd]; simp
    have hld := hs.ld
    rw [m_towncrierlaw15_SkeenRises_loop1_c]
    rcases apply_ok s g y hs with ⟨e, he, hap, _⟩ | ⟨W, ck, ds, W', hst, hap, hV, hck, d3, d4, d5, d6, _⟩
    · have hap' : m_skeen_Apply ⟨s.Clock, s.Waits, s.Done⟩ g y = _ := hap
      rw [hap']
      simp only [Option.bind_some, if_pos he]
      exact ih s ws (fun c hc => hL c (by simp [hc])) hs hd h1 h2
    · have hap' : m_skeen_Apply ⟨s.Clock, s.Waits, s.Done⟩ g y = _ := hap
      have hld2 := hV.ld
      simp only [List.length_append, List.length_map] at hld2
      rw [hap']
      simp only [Option.bind_some, not_true_eq_false, if_false, check_ok hV, false_or]
      have hlen : (((s.Done ++ ds.map stW).length : Nat) : Int) = wr .i64 ((s.Done.length : Int) + ((ds.map TWait.Message).length : Int)) := by
        rw [wr_ok _ (by simp; omega)]; simp
      have hcl : ¬ ck < s.Clock := by omega
      have htk : (s.Done ++ ds.map stW).take ((s.Done.length : Nat) : Int).toNat = s.Done := by rw [Int.toNat_natCast]; simp
      simp only [hcl, hlen, not_true_eq_false, not_false_eq_true, or_self, if_true, htk, ss_eq, decide_true, Option.bind_some]
      rw [if_pos (by intro _; rw [← hlen]; simp; omega), if_neg (by simp), if_pos (by simp; omega)]
      simp only [Option.bind_some]
      have hfa := step_facts (hL y (by simp)) hst h1
      have e : ws.map TWait.Message ++ ds.map TWait.Message = (ws ++ ds).map TWait.Message := by simp
      rw [e]
      refine ih ⟨ck, W', s.Done ++ ds.map stW⟩ (ws ++ ds) (fun c hc => hL c (by simp [hc])) hV ?_ (fun w hw => hfa w (d4 w hw)) (fun w hw => ?_)
      · show s.Done ++ ds.map stW = _
        rw [hd]; simp
      · rcases List.mem_append.1 hw with hw | hw
        · exact h2 w hw
        · have := d3 w hw
          exact ⟨(hfa w this.1).1, (hfa w this.1).2 this.2⟩

theorem rises_loop2 (a : TSkeen) (g : Int) (L : List TCommand) (ws : List TWait) (hl : a.Done.length + ws.length ≤ 400) (h : ∀ w ∈ ws, As a L g w.Message ∧ Fi a L (stW w)) : ∀ (fu i : Nat), ws.length - i < fu → i ≤ ws.length →
    m_towncrierlaw15_SkeenRises_loop2 g L a (a.Done ++ ws.map stW) (ws.map TWait.Message) fu (i : Int) = some (.inr ()) := by
  intro fu
  induction fu with
  | zero => intro i h; omega
  | succ fu ih =>
    intro i hi hle
    rw [m_towncrierlaw15_SkeenRises_loop2]
    by_cases hlt : i < ws.length
    · have hw : wr .i64 ((i : Int) + 1) = ((i + 1 : Nat) : Int) := wr_ok _ (by omega)
      have hw2 : wr .i64 ((a.Done.length : Int) + (i : Int)) = ((a.Done.length + i : Nat) : Int) := by rw [wr_ok _ (by omega)]; omega
      have hg1 : (a.Done ++ ws.map stW).getD ((a.Done.length + i : Nat) : Int).toNat default = stW ws[i] := by
        rw [Int.toNat_natCast]; simp [List.getD, List.getElem?_append_right, hlt]
      have hg2 : (ws.map TWait.Message).getD (i : Int).toNat default = ws[i].Message := by
        rw [Int.toNat_natCast]; simp [List.getD, hlt]
      have hf := h _ (List.getElem_mem hlt)
      have hid : (stW ws[i]).Id = ws[i].Message.Id := rfl
      simp only [hw2, hg1, hg2, hid, not_true_eq_false, not_false_eq_true, if_true, as_eq _ _ _ _ hf.1, fi_eq _ _ _ hf.2, Option.bind_some, or_self, if_false, hw]
      rw [if_pos (by simp; omega), if_pos (by simp; omega), if_pos (by simp; omega), if_pos (by intro _; simp; omega)]
      exact ih (i + 1) (by omega) (by omega)
    · rw [if_neg (by simp; omega)]

theorem skrises_law (a : TSkeen) (g : Int) (l : List TCommand) (hsz : ∀ w ∈ a.Waits, w.Message.Groups.length * 8 ≤ 140737488355328) : m_towncrierlaw15_SkeenRises a g l = some true := by
  obtain ⟨b, hb, hg⟩ := great_eq a
  obtain ⟨b2, hb2⟩ := long_eq l
  rw [m_towncrierlaw15_SkeenRises, hb]
  simp only [Option.bind_some]
  cases b with
  | true => simp
  | false =>
    obtain ⟨g1, g2⟩ := hg rfl
    simp only [Bool.false_eq_true, not_false_eq_true, if_true, hb2, Option.bind_some, false_or]
    by_cases hb3 : b2 = true
    · rw [if_pos hb3]
    rw [if_neg hb3, twin_sk a (by omega) (by omega) hsz]
    simp only [Option.bind_some]
    by_cases hV : V a
    · obtain ⟨s', ws, h1, h2, h3, h4⟩ := good_loop a g l l a [] (fun c hc => hc) hV (by simp) (fun w hw => ⟨.inl ⟨w, hw, rfl⟩, fun hf => .inl ⟨w, hw, hf, rfl, rfl⟩⟩) (by simp)
      have h1 : m_towncrierlaw15_SkeenRises_loop1 g l a.Clock a.Waits a.Done [] = _ := h1
      have hld := h2.ld
      have hlen : s'.Done.length = a.Done.length + ws.length := by rw [h3]; simp
      rw [h1]
      simp only [Option.bind_some, check_ok hV, not_true_eq_false, if_false]
      have hwr : ((s'.Done.length : Nat) : Int) = wr .i64 ((a.Done.length : Int) + ((ws.map TWait.Message).length : Int)) := by
        rw [wr_ok _ (by simp; omega)]; simp; omega
      simp only [hwr, not_true_eq_false, not_false_eq_true, if_true, rises_eq s'.Done (by omega) h2.d.2.1, Option.bind_some, or_self, if_false]
      have := rises_loop2 a g l ws (by omega) h4 1000 0 (by omega) (by omega)
      rw [← h3, show ((0 : Nat) : Int) = 0 from rfl] at this
      rw [this]
      rfl
    · rw [bad_loop g a hV [] l]
      simp only [Option.bind_some]
      obtain ⟨e, he, hi⟩ := sk_check a
      rw [he]
      simp only [Option.bind_some]
      rw [if_pos (fun k => hV (hi.1 k))]
      rfl
end Go.Proofs
end
section
/- A law's row, off its contract: what is handed in, read. -/






namespace Go.Tm
open Go.RowKit Go.WideShapes Go.ChangeShapes

/-! ## What is handed in, read -/
def aggT (P : Program) (t : TypeId) : Bool := match P.underlying t with
  | some (.struct _) => true
  | _ => false

def mkD (P : Program) (t : TypeId) (l : List D) : D := bif aggT P t then .agg l else l.headD .undef

def fieldsIn (P : Program) (chk : TypeId → Bool) : Nat → List Field → Nat → Bool
  | off, [], tot => Nat.beq off tot
  | off, f :: fs, tot => Nat.beq f.offset off && chk f.type && fieldsIn P chk (off + P.cellsOf f.type) fs tot

/-- plain data: bools, numbers, strings, lists and structs of such -/
def dataT (P : Program) : Nat → TypeId → Bool
  | 0, _ => false
  | n + 1, t => match P.underlying t with
    | some .bool => true
    | some (.int _) => true
    | some .string => true
    | some (.slice e) => dataT P n e && Nat.blt 0 (P.cellsOf e) && (aggT P e || Nat.beq (P.cellsOf e) 1)
    | some (.struct fs) => fieldsIn P (dataT P n) 0 fs.toList (P.cellsOf t)
    | _ => false

def typedL (p : TypeId → List D → Prop) : List TypeId → List D → Prop
  | [], l => l = []
  | t :: ts, l => ∃ l1 l2, l = l1 ++ l2 ∧ p t l1 ∧ typedL p ts l2

theorem reps_append' {C : Cx} : ∀ {l1 l2 : List D} {v1 v2 : List Value}, reps C l1 v1 → reps C l2 v2 → reps C (l1 ++ l2) (v1 ++ v2)
  | [], l2, v1, v2, h1, h2 => by simp only [reps] at h1; subst h1; simpa using h2
  | d :: ds, l2, v1, v2, h1, h2 => by
    simp only [reps] at h1
    obtain ⟨v, vs, rfl, hd, h1⟩ := h1
    simp only [List.cons_append, reps]
    exact ⟨v, vs ++ v2, rfl, hd, reps_append' h1 h2⟩

theorem elems_of {C : Cx} {b s : Nat} {p : List D → Prop} {f : List D → D} : ∀ (n o : Nat), (∀ i, i < n → ∃ l v, p l ∧ rep C (f l) v ∧ v.cells.size = s ∧ v.cells.toList.all (·.oneCell') = true ∧ C.w.rangeAt b (o + i * s) v.cells.toList) →
    ∃ xs : List (List D), xs.length = n ∧ elems C (xs.map f) b o s ∧ ∀ x ∈ xs, p x
  | 0, o, _ => ⟨[], rfl, by simp only [List.map_nil, elems], by simp⟩
  | n + 1, o, h => by
    obtain ⟨l, v, h1, h2, h3, h4, h5⟩ := h 0 (by omega)
    obtain ⟨xs, g1, g2, g3⟩ := elems_of n (o + s) (fun i hi => by
      obtain ⟨l, v, h1, h2, h3, h4, h5⟩ := h (i + 1) (by omega)
      exact ⟨l, v, h1, h2, h3, h4, by rwa [show o + (i + 1) * s = o + s + i * s by rw [Nat.add_mul]; omega] at h5⟩)
    refine ⟨l :: xs, by simp [g1], ?_, by simpa using ⟨h1, g3⟩⟩
    simp only [List.map_cons, elems]
    exact ⟨⟨v, h2, h3, h4, by simpa using h5⟩, g2⟩

theorem fieldsIn_le {P : Program} {chk : TypeId → Bool} : ∀ (fs : List Field) (off tot : Nat), fieldsIn P chk off fs tot = true → off ≤ tot
  | [], off, tot, h => Nat.le_of_eq (Nat.eq_of_beq_eq_true h)
  | f :: fs, off, tot, h => by
    simp only [fieldsIn, Bool.and_eq_true] at h
    have := fieldsIn_le fs _ _ h.2
    omega

section
variable {H : Type} {enc : TypeId × Value → H} {P : Program} {w : World} {sp : Nat → Bool}

/-- data that lie below stay -/
theorem trodAll_stays (hl : laidOutB P = true) {W W' : World} (hB : Below W.heap.size W W') {sp' : Nat → Bool} : ∀ {ts : List TypeId} {vs : List Value} {ds : List (DataW H)} {ps : List MemPlace}, (ts.all fun t => P.readableRec t && Nat.blt t P.types.size) = true →
    DataW.TrodAll enc P W 0 (fun _ => true) true ts vs ds ps → (∀ p ∈ ps, p.block < W.heap.size ∧ sp' p.block = true) → DataW.TrodAll enc P W' 0 sp' true ts vs ds ps
  | [], [], [], _, _, h, _ => h
  | t :: ts, v :: vs, d :: ds, ps, hr, h, hp => by
    obtain ⟨p, q, h1, h2, rfl⟩ := h
    simp only [List.all_cons, Bool.and_eq_true] at hr
    refine ⟨p, q, WideElems.Trod_stays hl hr.1.1 (Nat.le_of_ble_eq_true hr.1.2) h1 (fun x hx => hB.same (hp x (by simp [hx])).1) (fun x hx => (hp x (by simp [hx])).2), ?_, rfl⟩
    exact trodAll_stays hl hB hr.2 h2 fun x hx => hp x (by simp [hx])
  | [], _ :: _, _, _, _, h, _ => h.elim
  | [], [], _ :: _, _, _, h, _ => h.elim
  | _ :: _, [], _, _, _, h, _ => h.elim
  | _ :: _, _ :: _, [], _, _, h, _ => h.elim

end

section
variable {P : Program} {n : Nat} {t : TypeId} {l : List D}
theorem mkD_one {d : D} (ha : aggT P t = false) : mkD P t [d] = d := by simp only [mkD, ha, cond_false, List.headD_cons]
theorem mkD_agg (ha : aggT P t = true) : mkD P t l = .agg l := by simp only [mkD, ha, cond_true]
theorem typedL_cons {p : TypeId → List D → Prop} {ts : List TypeId} (h : typedL p (t :: ts) l) : ∃ l1 l2, l = l1 ++ l2 ∧ p t l1 ∧ typedL p ts l2 := h
theorem typedL_nil {p : TypeId → List D → Prop} (h : typedL p [] l) : l = [] := h
end
end Go.Tm
end
section
/- Laws' rows off their contracts, with the form's own reach: no list of what is handed in takes more bytes than that. -/


namespace Go.Tm
open Go.RowKit Go.WideShapes

/-- cells that are plain data, no list of which is too great -/
def typedS (P : Program) : Nat → TypeId → List D → Prop
  | 0, _, _ => False
  | n + 1, t, l => match P.underlying t with
    | some .bool => ∃ b, l = [.bool b]
    | some (.int k) => ∃ m, l = [.int k m]
    | some .string => ∃ s, l = [.str s]
    | some (.slice e) => ∃ xs : List (List D), l = [.imm (P.cellsOf e) (xs.map (mkD P e)) 4] ∧ xs.length * P.bytesOf e ≤ 140737488355328 ∧ ∀ x ∈ xs, typedS P n e x
    | some (.struct fs) => typedL (typedS P n) (fs.toList.map (·.type)) l
    | _ => False

section
variable {H : Type} {enc : TypeId × Value → H} {P : Program} {w : World} {sp : Nat → Bool}
theorem weightsAll_mem {e : TypeId} {k : Nat} : ∀ {l : List (DataW H)} {d : DataW H}, d ∈ l → k ∈ DataW.weights P e d → k ∈ DataW.weightsAll P e l
  | x :: l, d, hd, hk => by
    simp only [DataW.weightsAll, List.mem_append]
    rcases List.mem_cons.1 hd with rfl | hd
    · exact .inl hk
    · exact .inr (weightsAll_mem hd hk)
theorem weightsEach_pre {k : Nat} : ∀ {ts vt : List TypeId} {ds gs : List (DataW H)}, k ∈ DataW.weightsEach P ts ds → k ∈ DataW.weightsEach P (ts ++ vt) (ds ++ gs)
  | [], _, _, _, h => by simp [DataW.weightsEach] at h
  | _ :: _, _, [], _, h => by simp [DataW.weightsEach] at h
  | t :: ts, vt, d :: ds, gs, h => by
    simp only [DataW.weightsEach, List.cons_append, List.mem_append] at h ⊢
    exact h.imp id weightsEach_pre

theorem trod_repsS : ∀ (n fuel : Nat) (t : TypeId) (cs : List Value) (x : DataW H × List MemPlace) (C : Cx), C.w = w → (∀ b, ¬ C.M b) → (∀ b, C.Z b) → dataT P n t = true → DataW.trod enc P w 0 sp true fuel t cs = some x → (∀ k ∈ DataW.weights P t x.1, k ≤ reachBytes) →
    ∃ l, reps C l cs ∧ typedS P n t l ∧ cs.all (·.oneCell') = true
  | 0, _, _, _, _, _, _, _, _, h, _, _ => by simp [dataT] at h
  | n + 1, fuel, t, cs, x, C, hw, hM, hlo, hd, h, hwt => by
    unfold dataT at hd
    split at hd
    · rename_i ht
      simp only [typedS, ht]
      obtain ⟨b, rfl, _⟩ := DataW.trod_bool ht h
      exact ⟨[.bool b], by simp only [reps, rep]; exact ⟨_, _, rfl, rfl, rfl⟩, ⟨b, rfl⟩, rfl⟩
    · rename_i k ht
      simp only [typedS, ht]
      obtain ⟨m, rfl, _, hwf⟩ := DataW.trod_int ht h
      simp only [Lit.wf, Bool.and_eq_true, decide_eq_true_eq] at hwf
      exact ⟨[.int k m], by simp only [reps, rep]; exact ⟨_, _, rfl, ⟨rfl, hwf⟩, rfl⟩, ⟨m, rfl⟩, rfl⟩
    · rename_i ht
      simp only [typedS, ht]
      obtain ⟨s, rfl, _, hs⟩ := DataW.trod_string ht h
      refine ⟨[.str s.data.toList], ?_, ⟨_, rfl⟩, rfl⟩
      simp only [reps, rep]
      refine ⟨_, _, rfl, ⟨by rw [Array.toArray_toList], ?_⟩, rfl⟩
      have h1 : s.data.toList.length = s.size := by rw [Array.length_toList]; rfl
      have h2 : s.size ≤ 9223372036854775807 := hs
      rw [h1]; omega
    · rename_i e ht
      simp only [typedS, ht]
      simp only [Bool.and_eq_true, Bool.or_eq_true] at hd
      obtain ⟨⟨hde, hpos⟩, hone⟩ := hd
      have hpos : 0 < P.cellsOf e := Nat.le_of_ble_eq_true hpos
      rcases DataW.trod_slice ht h with ⟨rfl, _⟩ | ⟨a, len, cap, els, rest, m, _, rfl, rfl, hb, hl, hc, hlen, hel, _⟩
      · refine ⟨[.imm (P.cellsOf e) (([] : List (List D)).map (mkD P e)) 4], ?_, ⟨[], rfl, by simp, fun _ h => by cases h⟩, rfl⟩
        simp only [reps, rep, List.map_nil, List.length_nil]
        exact ⟨_, _, rfl, ⟨none, 0, rfl, by simp, by simp, by simp, by simp, by simp, by simp, by simp, .inl trivial⟩, rfl⟩
      · have hc : cap ≤ 9223372036854775807 := hc
        have key : ∀ i, i < len → ∃ l v, typedS P n e l ∧ rep (C.at C.Z) (mkD P e l) v ∧ v.cells.size = P.cellsOf e ∧ v.cells.toList.all (·.oneCell') = true ∧ (i = 0 → a.spot = none) ∧ a.block < w.heap.size ∧ w.rangeAt a.block (a.off + i * P.cellsOf e) v.cells.toList := by
          intro i hi
          have hi' := hel i hi
          have hsome : els[i]? = some els[i] := List.getElem?_eq_getElem (by omega)
          rw [hsome, Option.bind_eq_some_iff] at hi'
          obtain ⟨cs', hcs, htr⟩ := hi'
          obtain ⟨_, hclen, hcell⟩ := World.cells?_some hcs
          obtain ⟨l, g1, g2, g3⟩ := trod_repsS n m e cs' _ (C.at C.Z) (by simpa [Cx.at] using hw) (by simpa [Cx.at] using hM) (by simpa [Cx.at] using hlo) hde htr (fun k hk => hwt k (by
            simp only [DataW.weights, ht, List.mem_cons, List.mem_append]
            exact .inr (.inl (weightsAll_mem (List.mem_map_of_mem (List.getElem_mem _)) hk))))
          have h0 := hcell 0 hpos
          have hc0 : cs'[0]? = some cs'[0] := List.getElem?_eq_getElem (by omega)
          rw [hc0] at h0
          have hadd : ∀ j, ((a.add (i * P.cellsOf e)).add j).block = a.block := by intro j; unfold Addr.add; split <;> split <;> rfl
          have hblk : a.block < w.heap.size ∧ ((a.add (i * P.cellsOf e)).add 0).spot = none := by
            unfold World.cell? at h0
            rw [hadd] at h0
            split at h0
            · rename_i c T fz hh
              have := (Array.getElem?_eq_some_iff.1 hh).1
              split at h0
              · cases h0
              · rename_i hs; exact ⟨this, by simpa using hs⟩
            · cases h0
          have hspot0 : (a.add (i * P.cellsOf e)).spot = none := by simpa [Addr.add] using hblk.2
          have hae : ∀ j, j < P.cellsOf e → (a.add (i * P.cellsOf e)).add j = ⟨a.block, a.off + i * P.cellsOf e + j, none⟩ := by
            intro j _
            unfold Addr.add at hspot0 ⊢
            split at hspot0
            · rename_i hz
              simp only [hz, if_true, Nat.add_zero]
              split
              · rename_i hj; subst hj; cases a; simp_all
              · rfl
            · rename_i hz
              simp only [hz, if_false]
              split
              · rename_i hj; subst hj; rfl
              · rfl
          have hrange : w.rangeAt a.block (a.off + i * P.cellsOf e) cs' := by
            intro j v hj
            have hjl := (List.getElem?_eq_some_iff.1 hj).1
            have := hcell j (by omega)
            rw [hae j (by omega), hj] at this
            exact this
          cases hag : aggT P e with
          | true =>
            refine ⟨l, .agg cs'.toArray, g2, ?_, by simp [Value.cells, hclen], by simpa [Value.cells] using g3, ?_, hblk.1, by simpa [Value.cells] using hrange⟩
            · simp only [mkD, hag, cond_true, rep]
              exact ⟨cs', rfl, g1⟩
            · rintro rfl; simpa [Addr.add] using hspot0
          | false =>
            rw [hag] at hone
            have h1 : P.cellsOf e = 1 := by simpa using hone
            rw [h1] at hclen
            obtain ⟨v, rfl⟩ := List.length_eq_one_iff.1 hclen
            obtain ⟨d, rfl⟩ : ∃ d, l = [d] := List.length_eq_one_iff.1 ((reps_length _ _ g1).symm.trans rfl)
            simp only [reps] at g1
            obtain ⟨v', vs', hv, hd, rfl⟩ := g1
            obtain rfl : v = v' := (List.cons.inj hv).1
            have hcv : v.cells = #[v] := by
              simp only [List.all_cons, List.all_nil, Bool.and_true] at g3
              cases v <;> first | rfl | simp [Value.oneCell'] at g3
            refine ⟨[d], v, g2, by simpa [mkD, hag] using hd, by simp [hcv, h1], by simpa [hcv] using g3, ?_, hblk.1, by simpa [hcv] using hrange⟩
            rintro rfl; simpa [Addr.add] using hspot0
        obtain ⟨xs, g1, g2, g3⟩ := elems_of (C := C.at C.Z) (b := a.block) (s := P.cellsOf e) (p := typedS P n e) (f := mkD P e) len a.off (fun i hi => by
          obtain ⟨l, v, h1, h2, h3, h4, _, _, h5⟩ := key i hi
          exact ⟨l, v, h1, h2, h3, h4, by subst hw; exact h5⟩)
        refine ⟨[.imm (P.cellsOf e) (xs.map (mkD P e)) 4], ?_, ⟨xs, rfl, ?_, g3⟩, rfl⟩
        case refine_2 =>
          have h9 := hwt ((els.length + rest.length) * P.bytesOf e) (by simp [DataW.weights, ht])
          have h8 : xs.length * P.bytesOf e ≤ (els.length + rest.length) * P.bytesOf e := Nat.mul_le_mul_right _ (by omega)
          have h7 := reachBytes_lt
          omega
        simp only [reps, rep, List.length_map, g1]
        refine ⟨_, _, rfl, ⟨some a, cap, rfl, hl, by omega, by simp, by simp, by simp, by simp, by simp, ?_⟩, rfl⟩
        rcases Nat.eq_zero_or_pos len with h0 | h0
        · left; subst h0; have := List.length_eq_zero_iff.1 g1; simp [this]
        · right
          obtain ⟨_, _, _, _, _, _, k1, k2, _⟩ := key 0 h0
          intro Z hZ
          have hZ : C.Z = Z := by simpa [Cx.zone] using hZ
          subst hZ
          exact ⟨a, rfl, k1 rfl, hM _, hlo _, by rw [hw]; exact k2, g2⟩
    · rename_i fs ht
      simp only [typedS, ht]
      obtain ⟨xs, m, _, rfl, hcl, hxl, hf⟩ := DataW.trod_struct ht h
      have key : ∀ (gs : List Field) (k : Nat), (∀ i f, gs[i]? = some f → fs[k + i]? = some f) → ∀ off, fieldsIn P (dataT P n) off gs (P.cellsOf t) = true → off ≤ cs.length → 
          ∃ l, reps C l (cs.drop off) ∧ typedL (typedS P n) (gs.map (·.type)) l ∧ (cs.drop off).all (·.oneCell') = true := by
        intro gs
        induction gs with
        | nil =>
          intro k _ off ho _
          simp only [fieldsIn] at ho
          have ho := Nat.eq_of_beq_eq_true ho
          have : cs.drop off = [] := by rw [ho, ← hcl]; simp
          rw [this]
          exact ⟨[], by simp only [reps], rfl, rfl⟩
        | cons f gs ih =>
          intro k hk off ho hle
          simp only [fieldsIn, Bool.and_eq_true] at ho
          obtain ⟨⟨h1, h2⟩, h3⟩ := ho
          have h1 := Nat.eq_of_beq_eq_true h1
          have hfk := hf k f (by simpa using hk 0 f rfl)
          have hkl : k < xs.length := by
            have := hk 0 f rfl
            rw [hxl]
            exact (Array.getElem?_eq_some_iff.1 (by simpa using this)).1
          rw [List.getElem?_eq_getElem hkl, h1] at hfk
          obtain ⟨l1, g1, g2, g3⟩ := trod_repsS n m f.type _ _ C hw hM hlo h2 hfk (fun q hq => hwt q (by
            simp only [DataW.weights, ht]
            have h0 := hk 0 f rfl
            exact DataW.weights_mem_each (j := k) (by simp; exact ⟨f, by simpa using h0, rfl⟩) (by rw [List.getElem?_map, List.getElem?_eq_getElem hkl]; rfl) q hq))
          have hl1 : ((cs.drop off).take (P.cellsOf f.type)).length = P.cellsOf f.type := by
            have := fieldsIn_le _ _ _ h3
            simp
            omega
          obtain ⟨l2, k1, k2, k3⟩ := ih (k + 1) (fun i f' hi => by have := hk (i + 1) f' (by simpa using hi); rwa [show k + (i + 1) = k + 1 + i by omega] at this) (off + P.cellsOf f.type) h3 (by
            simp at hl1; omega)
          have e : cs.drop off = (cs.drop off).take (P.cellsOf f.type) ++ cs.drop (off + P.cellsOf f.type) := by
            rw [← List.drop_drop, List.take_append_drop]
          refine ⟨l1 ++ l2, by rw [e]; exact reps_append' g1 k1, ⟨l1, l2, rfl, g2, k2⟩, by rw [e, List.all_append, g3, k3]; rfl⟩
      simpa using key fs.toList 0 (fun i f hi => by simpa using hi) 0 hd (Nat.zero_le _)
    · cases hd

/-- the arguments, read -/
theorem trod_repS {r : Reach} {b0 n : Nat} {t : TypeId} {v : Value} {d : DataW H} {ps : List MemPlace} {fr : Nat} (hd : dataT P n t = true) (hval : Value.okWide P w r b0 t v) (h : DataW.Trod enc P w 0 sp true t v d ps) (hwt : ∀ k ∈ DataW.weights P t d, k ≤ reachBytes) :
    ∃ l, typedS P n t l ∧ rep (cx0 w fr) (mkD P t l) v := by
  obtain ⟨fuel, h⟩ := h
  obtain ⟨l, h1, h2, h3⟩ := trod_repsS n fuel t _ _ (cx0 w fr) rfl (fun _ h => h) (fun _ => trivial) hd h hwt
  refine ⟨l, h2, ?_⟩
  unfold mkD aggT
  cases n with
  | zero => simp [dataT] at hd
  | succ n =>
    unfold dataT at hd
    unfold Value.okWide at hval
    split at hd
    case h_5 fs ht =>
      rw [ht] at hval ⊢
      obtain ⟨cs, rfl, _⟩ := hval
      simp only [cond_true, rep]
      exact ⟨cs.toList, by simp, by simpa [Value.cells] using h1⟩
    case h_6 => cases hd
    all_goals
      rename_i ht
      rw [ht] at hval ⊢
      simp only [cond_false]
      have hcv : v.cells = #[v] := by
        cases v with
        | agg cs => simp [Cell.okWide, Cell.ok, ht] at hval
        | _ => rfl
      rw [hcv] at h1
      have hl : ∃ d, l = [d] := List.length_eq_one_iff.1 ((reps_length _ _ h1).symm.trans rfl)
      obtain ⟨d, rfl⟩ := hl
      simp only [reps] at h1
      obtain ⟨v', vs', hv, hd', _⟩ := h1
      obtain rfl : v = v' := by simpa using (List.cons.inj hv).1
      exact hd'

def typedAllS (P : Program) (n : Nat) : List TypeId → List D → Prop
  | [], l => l = []
  | t :: ts, l => ∃ c r, l = mkD P t c :: r ∧ typedS P n t c ∧ typedAllS P n ts r

theorem trodAll_repsS {r : Reach} {b0 n fr : Nat} : ∀ {ts : List TypeId} {vs : List Value} {ds : List (DataW H)} {ps : List MemPlace}, ts.all (dataT P n) = true → (∀ (j : Nat) t v, ts[j]? = some t → vs[j]? = some v → Value.okWide P w r b0 t v) →
    DataW.TrodAll enc P w 0 sp true ts vs ds ps → (∀ k ∈ DataW.weightsEach P ts ds, k ≤ reachBytes) → ∃ l, typedAllS P n ts l ∧ reps (cx0 w fr) l vs
  | [], [], [], _, _, _, _, _ => ⟨[], rfl, by simp only [reps]⟩
  | t :: ts, v :: vs, d :: ds, ps, hd, hval, h, hwt => by
    obtain ⟨p, q, h1, h2, _⟩ := h
    simp only [List.all_cons, Bool.and_eq_true] at hd
    obtain ⟨c, g1, g2⟩ := trod_repS (fr := fr) hd.1 (hval 0 t v rfl rfl) h1 (fun k hk => hwt k (by simp only [DataW.weightsEach, List.mem_append]; exact .inl hk))
    obtain ⟨l, k1, k2⟩ := trodAll_repsS hd.2 (fun j t v h h' => hval (j + 1) t v h h') h2 (fun k hk => hwt k (by simp only [DataW.weightsEach, List.mem_append]; exact .inr hk))
    exact ⟨_ :: l, ⟨c, l, rfl, g1, k1⟩, by simp only [reps]; exact ⟨_, _, rfl, g2, k2⟩⟩
  | [], _ :: _, _, _, _, _, h, _ => h.elim
  | [], [], _ :: _, _, _, _, h, _ => h.elim
  | _ :: _, [], _, _, _, _, h, _ => h.elim
  | _ :: _, _ :: _, [], _, _, _, h, _ => h.elim

/-- a law's row, off its contract -/
theorem law_contractS {K : FuncId} {f : Func} {s : ChangeSpec} {apart fresh : Bool} {n : Nat} {tb : TypeId} (hl : laidOutB P = true) (hr : (f.params.toList.all fun t => P.readableRec t && Nat.blt t P.types.size) = true)
    (hd : f.params.toList.all (dataT P n) = true) (hvars : s.vars = []) (hres : f.resultTypes = #[tb]) (hb : P.underlying tb = some .bool)
    (hfn : ∀ ds : List (DataW H), ds.length = f.params.size → s.fn H ds = { results := [.lit (.bool true)], args := ds })
    (hK : ∀ l, typedAllS P n f.params.toList l → CallP P K l (.bool true)) {W : World} {base : Nat} {args : Array Value} {ds gs : List (DataW H)} {before : List MemPlace}
    (hval : ∀ (j : Nat) t v, f.params[j]? = some t → args[j]? = some v → Value.okWide P W .any base t v) (hW : DataW.Whole enc P f.params.toList s.vars apart W args.toList ds gs before) {vt : List TypeId} (hsz : (DataW.weightsEach P (f.params.toList ++ vt) (ds ++ gs)).all (· ≤ reachBytes) = true) :
    Calls P K args W fun e W' => ∃ v, e = .returned v ∧ s.post enc P f apart fresh false false W args v W' := by
  have hW' := hW
  obtain ⟨p, q, hA, hV, rfl, hfz, hnd⟩ := hW
  rw [hvars] at hV
  have hlen : ds.length = f.params.size := by
    have : ∀ {ts : List TypeId} {vs : List Value} {ds : List (DataW H)} {ps : List MemPlace}, DataW.TrodAll enc P W 0 (fun _ => true) true ts vs ds ps → ds.length = ts.length := by
      intro ts
      induction ts with
      | nil => intro vs ds ps h; cases vs <;> cases ds <;> first | rfl | exact h.elim
      | cons t ts ih => intro vs ds ps h; cases vs <;> cases ds <;> first | (obtain ⟨_, _, _, h2, _⟩ := h; simp [ih h2]) | exact h.elim
    simpa using this hA
  have hgs : gs = [] ∧ q = [] := by
    cases gs with
    | nil => exact ⟨rfl, hV⟩
    | cons g gs => exact hV.elim
  obtain ⟨rfl, rfl⟩ := hgs
  obtain ⟨l, h1, h2⟩ := trodAll_repsS (fr := W.heap.size) hd (fun j t v h h' => hval j t v (by simpa using h) (by simpa using h')) hA (fun k hk => by
    have := List.all_eq_true.1 hsz k (weightsEach_pre hk)
    simpa using this)
  refine ((hK l h1).2 W _ h2).mono fun e W' ⟨v, he, hk, _, hv⟩ => ⟨v, he, ?_⟩
  simp only [rep] at hv
  subst hv
  have hB := hk.below
  have hlt := hW'.lt
  have hf := hfn ds hlen
  refine ⟨ds, [], p ++ [], [], p, [], hW', ?_, ?_, ?_, ?_, fun h => by cases h⟩
  · rw [List.append_nil, hf, hres]
    exact ⟨[], [], ⟨1, by simp [DataW.trod, Value.cells, hb]⟩, rfl, rfl⟩
  · rw [List.append_nil, hf]
    exact trodAll_stays hl hB hr hA fun x hx => ⟨hlt x (by simp [hx]), by simpa using hlt x (by simp [hx])⟩
  · rw [List.append_nil, hf, hvars]
    rfl
  · exact hB.frame _
end


section
variable {P : Program} {n : Nat} {t : TypeId} {l : List D}
theorem typedS_bool (hu : P.underlying t = some .bool) (h : typedS P (n + 1) t l) : ∃ b, l = [.bool b] := by
  rw [typedS, hu] at h; exact h
theorem typedS_int {k : IntKind} (hu : P.underlying t = some (.int k)) (h : typedS P (n + 1) t l) : ∃ m, l = [.int k m] := by
  rw [typedS, hu] at h; exact h
theorem typedS_str (hu : P.underlying t = some .string) (h : typedS P (n + 1) t l) : ∃ s, l = [.str s] := by
  rw [typedS, hu] at h; exact h
theorem list_ofS {α : Type} {f : α → D} {S : α → Prop} {g : List D → D} : ∀ (xs : List (List D)), (∀ x ∈ xs, ∃ y, g x = f y ∧ S y) → ∃ l : List α, xs.map g = l.map f ∧ l.length = xs.length ∧ ∀ y ∈ l, S y
  | [], _ => ⟨[], rfl, rfl, fun _ h => by cases h⟩
  | x :: xs, h => by
    obtain ⟨y, hy, hs⟩ := h x (by simp)
    obtain ⟨l, hl, hn, hS⟩ := list_ofS xs fun x hx => h x (by simp [hx])
    refine ⟨y :: l, by simp only [List.map_cons, hy, hl], by simp [hn], fun z hz => ?_⟩
    rcases List.mem_cons.1 hz with rfl | hz
    · exact hs
    · exact hS z hz
theorem typedS_list {α : Type} (f : α → D) (S : α → Prop) {e : TypeId} {s b : Nat} (hu : P.underlying t = some (.slice e)) (ha : aggT P t = false) (hc : P.cellsOf e = s) (hb : P.bytesOf e = b) (hx : ∀ x, typedS P n e x → ∃ y, mkD P e x = f y ∧ S y) (h : typedS P (n + 1) t l) :
    ∃ m : List α, mkD P t l = .imm s (m.map f) 4 ∧ m.length * b ≤ 140737488355328 ∧ ∀ y ∈ m, S y := by
  rw [typedS, hu] at h
  obtain ⟨xs, rfl, hle, hxs⟩ := h
  obtain ⟨m, hm, hn, hS⟩ := list_ofS (f := f) (S := S) (g := mkD P e) xs fun x hx' => hx x (hxs x hx')
  exact ⟨m, by rw [mkD_one ha, hm, hc], by rw [hn, ← hb]; exact hle, hS⟩
theorem typedS_one {e : TypeId} (hu : P.underlying t = some (.slice e)) (h : typedS P (n + 1) t l) : ∃ d, l = [d] := by
  rw [typedS, hu] at h
  obtain ⟨xs, rfl, _⟩ := h
  exact ⟨_, rfl⟩
theorem typedS_struct {fs : Array Field} (hu : P.underlying t = some (.struct fs)) (h : typedS P (n + 1) t l) : typedL (typedS P n) (fs.toList.map (·.type)) l := by
  rw [typedS, hu] at h; exact h
theorem typedAllS_cons {ts : List TypeId} (h : typedAllS P n (t :: ts) l) : ∃ c r, l = mkD P t c :: r ∧ typedS P n t c ∧ typedAllS P n ts r := h
theorem typedAllS_nil (h : typedAllS P n [] l) : l = [] := h
end
end Go.Tm
end

/- Plain facts about valid attempts: what attempt.Check tells. -/
import Derived.WideKeyArgs
import Derived.ChangeSame
import Derived.ChangeArms
import Derived.OpenShut
import Derived.Carry
import Derived.Test.YtejgahegnnbmkaaAttemptTellsPk
import Derived.Test.YtejgahegnnbmkaaAttemptTellsPj
import Derived.Test.YtejgahegnnbmkaaAttemptTellsPf
import Derived.Test.YtejgahegnnbmkaaAttemptTellsPg
import Derived.Test.YtejgahegnnbmkaaAttemptTellsPh
import Derived.Test.YtejgahegnnbmkaaAttemptTellsPi
import Derived.Test.YtejgahegnnbmkaaAttemptTellsPe
section
namespace Go.Proofs
open Go.Tm
set_option linter.unusedSimpArgs false

/-- what every begun attempt keeps -/
structure Kept (a : TAttempt) : Prop where
  ballot : BOk a.Ballot
  members : QOk a.Members
  wish : a.Wish.length ≤ 1024
  nodes : riseS a.Members none (a.Promises.map TPromise.Node) = true
  accepted : riseS a.Members none a.Accepted = true
  may : ∀ p ∈ a.Promises, MayS p a.Ballot
  most : mostS a.Members (a.Promises.map TPromise.Node) = decide (a.Phase > 1)
  chosen : mostS a.Members a.Accepted = (a.Phase == 3)
  value : a.Phase = 1 ∨ a.Value = bestS a.Promises a.Wish 0
def Valid (a : TAttempt) : Prop :=
  if a.Phase = 0 then a = ⟨0, 0, [], [], [], [], []⟩
  else ((a.Phase = 1 ∧ a.Value = [] ∧ a.Accepted = []) ∨ a.Phase = 2 ∨ a.Phase = 3) ∧ Kept a
theorem any_may (l : List TPromise) (b : Int) : (l.any fun x => !decide (MayS x b)) = true ↔ ¬ ∀ p ∈ l, MayS p b := by
  simp

theorem risesP_len : ∀ (l : List Int) (k : Int), risesP k l = true → k < 6 → (l.length : Int) ≤ 5 - k := by
  intro l
  induction l with
  | nil => intro k _ h; simp; omega
  | cons y l ih =>
    intro k h hk
    simp only [risesP, Bool.and_eq_true, decide_eq_true_eq] at h
    have := ih y h.2 h.1.2
    simp only [List.length_cons]
    omega
theorem riseS_risesP {m : List Int} (hm : QOk m) : ∀ (l : List Int) (k : Int), riseS m (some k) l = true → risesP k l = true := by
  intro l
  induction l with
  | nil => intro _ _; rfl
  | cons y l ih =>
    intro k h
    simp only [riseS, Bool.and_eq_true, decide_eq_true_eq] at h
    have := (rises_lt m (-1) hm.2.1 y h.1.2).2
    simp only [risesP, Bool.and_eq_true, decide_eq_true_eq]
    exact ⟨⟨h.1.1, this⟩, ih y h.2⟩
theorem riseS_none {m : List Int} (hm : QOk m) (l : List Int) (h : riseS m none l = true) : risesP (-1) l = true := by
  cases l with
  | nil => rfl
  | cons y l =>
    simp only [riseS, Bool.and_eq_true, decide_eq_true_eq, true_and] at h
    have := rises_lt m (-1) hm.2.1 y h.1
    simp only [risesP, Bool.and_eq_true, decide_eq_true_eq]
    exact ⟨this, riseS_risesP hm l y h.2⟩
theorem riseS_len {m : List Int} (hm : QOk m) (l : List Int) (h : riseS m none l = true) : l.length ≤ 6 := by
  have := risesP_len l (-1) (riseS_none hm l h) (by omega)
  omega

theorem amost_eq (m l : List Int) (hm : QOk m) (hl : l.length ≤ 1000) : m_attempt_most m l = some (mostS m l) := by
  rw [m_attempt_most, most_eq m l hm hl]; rfl
theorem check1_eq (x : TPromise) (a : TAttempt) : m_attempt_Check_1 x a = some (!decide (MayS x a.Ballot)) := by
  rw [m_attempt_Check_1, may_eq]; rfl
theorem qcheck_ne {m : List Int} (h : ¬ QOk m) : ∃ e, m_quorum_Check m = some e ∧ e ≠ 0 := by
  have h2 : m_quorum_Check m ≠ some 0 := fun hh => h ((qok_iff m).1 hh)
  rw [qcheck_eq] at h2 ⊢
  exact ⟨_, rfl, fun hh => h2 (by rw [hh])⟩

theorem kept_iff (a : TAttempt) : Kept a ↔ BOk a.Ballot ∧ QOk a.Members ∧ a.Wish.length ≤ 1024 ∧ riseS a.Members none (a.Promises.map TPromise.Node) = true ∧ riseS a.Members none a.Accepted = true ∧ (∀ p ∈ a.Promises, MayS p a.Ballot) ∧ mostS a.Members (a.Promises.map TPromise.Node) = decide (a.Phase > 1) ∧ mostS a.Members a.Accepted = (a.Phase == 3) ∧ (a.Phase = 1 ∨ a.Value = bestS a.Promises a.Wish 0) :=
  ⟨fun h => ⟨h.1, h.2, h.3, h.4, h.5, h.6, h.7, h.8, h.9⟩, fun ⟨h1, h2, h3, h4, h5, h6, h7, h8, h9⟩ => ⟨h1, h2, h3, h4, h5, h6, h7, h8, h9⟩⟩

/-- what attempt.Check asks of all begun attempts -/
def checkTail (a0 : TAttempt) (b2 : Bool) : Option Bool :=
  Option.bind (if b2 = true then m_ballot_Check a0.Ballot else some default) fun v2 =>
  Option.bind (if (b2 = true) ∧ (v2 = 0) then m_quorum_Check a0.Members else some default) fun v3 =>
  Option.bind (if (((b2 = true) ∧ (v2 = 0)) ∧ (v3 = 0)) ∧ ((a0.Wish.length : Int) ≤ 1024) then m_attempt_nodes a0.Promises else some default) fun v4 =>
  Option.bind (if (((b2 = true) ∧ (v2 = 0)) ∧ (v3 = 0)) ∧ ((a0.Wish.length : Int) ≤ 1024) then m_attempt_rising v4 a0.Members else some default) fun v5 =>
  Option.bind (if ((((b2 = true) ∧ (v2 = 0)) ∧ (v3 = 0)) ∧ ((a0.Wish.length : Int) ≤ 1024)) ∧ (v5 = true) then m_attempt_rising a0.Accepted a0.Members else some default) fun v6 =>
  Option.bind (if (((((b2 = true) ∧ (v2 = 0)) ∧ (v3 = 0)) ∧ ((a0.Wish.length : Int) ≤ 1024)) ∧ (v5 = true)) ∧ (v6 = true) then m_slices_ContainsFunc_Promise_Promise a0.Promises (fun x0 => m_attempt_Check_1 x0 a0) else some default) fun v7 =>
  Option.bind (if ((((((b2 = true) ∧ (v2 = 0)) ∧ (v3 = 0)) ∧ ((a0.Wish.length : Int) ≤ 1024)) ∧ (v5 = true)) ∧ (v6 = true)) ∧ (¬ (v7 = true)) then m_attempt_nodes a0.Promises else some default) fun v8 =>
  Option.bind (if ((((((b2 = true) ∧ (v2 = 0)) ∧ (v3 = 0)) ∧ ((a0.Wish.length : Int) ≤ 1024)) ∧ (v5 = true)) ∧ (v6 = true)) ∧ (¬ (v7 = true)) then m_attempt_most a0.Members v8 else some default) fun v9 =>
  Option.bind (if (((((((b2 = true) ∧ (v2 = 0)) ∧ (v3 = 0)) ∧ ((a0.Wish.length : Int) ≤ 1024)) ∧ (v5 = true)) ∧ (v6 = true)) ∧ (¬ (v7 = true))) ∧ ((v9 == (decide (a0.Phase > 1))) = true) then m_attempt_most a0.Members a0.Accepted else some default) fun v10 =>
  Option.bind (if (((((((((b2 = true) ∧ (v2 = 0)) ∧ (v3 = 0)) ∧ ((a0.Wish.length : Int) ≤ 1024)) ∧ (v5 = true)) ∧ (v6 = true)) ∧ (¬ (v7 = true))) ∧ ((v9 == (decide (a0.Phase > 1))) = true)) ∧ ((v10 == (a0.Phase == 3)) = true)) ∧ (¬ (a0.Phase = 1)) then m_attempt_Best a0.Promises a0.Wish else some default) fun v11 =>
  some (((((((((b2 && (v2 == 0)) && (v3 == 0)) && (decide ((a0.Wish.length : Int) ≤ 1024))) && v5) && v6) && (!v7)) && (v9 == (decide (a0.Phase > 1)))) && (v10 == (a0.Phase == 3))) && ((a0.Phase == 1) || (a0.Value == v11)))

theorem tail_eq (a : TAttempt) (hl : a.Promises.length < 1000000) (b2 : Bool) : ∃ r, checkTail a b2 = some r ∧ (r = true ↔ b2 = true ∧ Kept a) := by
  unfold checkTail
  rw [kept_iff]
  cases b2 with
  | false => simp
  | true =>
    rw [bcheck_eq]
    by_cases hb : BOk a.Ballot
    · by_cases hq : QOk a.Members
      · have hq0 := (qok_iff _).2 hq
        by_cases hw : a.Wish.length ≤ 1024
        · have hw' : (a.Wish.length : Int) ≤ 1024 := by omega
          simp only [hb, hq0, hw', if_true, and_self, Option.bind_some, nodes_eq _ hl, rising_eq]
          by_cases h5 : riseS a.Members none (a.Promises.map TPromise.Node) = true
          · by_cases h6 : riseS a.Members none a.Accepted = true
            · have l1 := riseS_len hq _ h5
              have l2 := riseS_len hq _ h6
              rw [containsFunc_eq _ (fun x => !decide (MayS x a.Ballot)) (fun x => check1_eq x a)]
              simp only [h5, h6, and_self, if_true, Option.bind_some]
              by_cases h7 : ∀ p ∈ a.Promises, MayS p a.Ballot
              · have h7' : (a.Promises.any fun x => !decide (MayS x a.Ballot)) = false := by
                  rw [Bool.eq_false_iff]; intro hh; exact (any_may _ _).1 hh h7
                simp only [h7', Bool.false_eq_true, not_false_eq_true, and_self, if_true, Option.bind_some, amost_eq _ _ hq (Nat.le_trans l1 (by omega)), amost_eq _ _ hq (Nat.le_trans l2 (by omega)), best_eq]
                by_cases h9 : mostS a.Members (a.Promises.map TPromise.Node) = decide (a.Phase > 1)
                · by_cases h10 : mostS a.Members a.Accepted = (a.Phase == 3)
                  · by_cases h11 : a.Phase = 1
                    · simp [h9, h10, h11, hq, hw]
                      exact h7
                    · simp [h9, h10, h11, hq, hw]
                      exact fun _ => h7
                  · simp [h9, h10]
                · simp [h9]
              · have h7' := (any_may _ _).2 h7
                simp [h7', h7]
            · simp [h5, h6]
          · simp [h5]
        · have hw' : ¬ (a.Wish.length : Int) ≤ 1024 := by omega
          simp [hb, hq0, hw, hw']
      · obtain ⟨e, he, hne⟩ := qcheck_ne hq
        simp [hb, he, hne, hq]
    · simp [hb]

theorem check_eq (a : TAttempt) (hl : a.Promises.length < 1000000) : ∃ e, m_attempt_Check a = some e ∧ (e = 0 ↔ Valid a) := by
  unfold Valid
  rw [m_attempt_Check]
  by_cases h0 : a.Phase = 0
  · rw [if_pos h0, if_pos h0, same_eq]
    by_cases hz : a = ⟨0, 0, [], [], [], [], []⟩ <;> simp [hz]
  · rw [if_neg h0, if_neg h0]
    have key : ∀ b2 : Bool, ∃ e, (Option.bind (checkTail a b2) fun b1 => if ¬ (b1 = true) then some (8 : Int) else some 0) = some e ∧ (e = 0 ↔ b2 = true ∧ Kept a) := by
      intro b2
      obtain ⟨r, h1, h2⟩ := tail_eq a hl b2
      rw [h1, ← h2]
      cases r <;> simp
    by_cases h1 : a.Phase = 1
    · rw [if_pos h1]
      obtain ⟨e, he, h2⟩ := key ((a.Value == []) && ((a.Accepted.length : Int) == 0))
      refine ⟨e, he, ?_⟩
      rw [h2]
      simp [h1]
    · rw [if_neg h1]
      by_cases h2 : a.Phase = 2
      · obtain ⟨e, he, h3⟩ := key true
        refine ⟨e, ?_, ?_⟩
        · have hb : (a.Phase == 2) = true := by simp [h2]
          rw [if_pos h2, hb]
          exact he
        · rw [h3]
          simp [h2]
      · by_cases h3 : a.Phase = 3
        · obtain ⟨e, he, h4⟩ := key true
          refine ⟨e, ?_, ?_⟩
          · have hb : (a.Phase == 3) = true := by simp [h3]
            rw [if_neg h2]
            refine Eq.trans ?_ he
            show Option.bind (Option.bind (Option.bind (some (a.Phase == 3)) _) _) _ = _
            generalize hg : (a.Phase == 3) = q at hb
            subst hb
            unfold checkTail
            rw [hg]
            rfl
          · rw [h4]
            simp [h3]
        · exact ⟨8, by simp [h2, h3], by simp [h1, h2, h3]⟩
end Go.Proofs
end
section
/- Plain facts about sort.Search. -/

namespace Go.Proofs
open Go.Tm
set_option linter.unusedSimpArgs false

theorem half_eq (i j : Nat) (h : i + j < 4000000) : wr .i64 (shw false .u64 (wr .u64 (wr .i64 ((i : Int) + (j : Int)))) 1) = (((i + j) / 2 : Nat) : Int) := by
  have e1 : wr .i64 ((i : Int) + (j : Int)) = (i : Int) + (j : Int) := wr_eq _ _ (by show (-9223372036854775808 : Int) ≤ _; omega) (by show _ ≤ (9223372036854775807 : Int); omega)
  have e2 : wr .u64 ((i : Int) + (j : Int)) = (i : Int) + (j : Int) := wr_eq _ _ (by show (0 : Int) ≤ _; omega) (by show _ ≤ (18446744073709551615 : Int); omega)
  have e3 : shw false .u64 ((i : Int) + (j : Int)) 1 = (((i + j) / 2 : Nat) : Int) := by
    unfold shw
    show Int.fdiv ((i : Int) + (j : Int)) 2 = _
    rw [Int.fdiv_eq_ediv_of_nonneg _ (by omega)]
    omega
  rw [e1, e2, e3]
  exact wr_eq _ _ (by show (-9223372036854775808 : Int) ≤ _; omega) (by show _ ≤ (9223372036854775807 : Int); omega)
theorem search_loop (f : Int → Option Bool) (K n : Nat) (hn : n < 1000000) (hf : ∀ x : Nat, x < n → f (x : Int) = some (decide (K ≤ x))) : ∀ (fu i j : Nat), j - i < fu → i ≤ K → K ≤ j → j ≤ n → m_sort_Search_loop1 f fu (i : Int) (j : Int) = some (K : Int) := by
  intro fu
  induction fu with
  | zero => intro i j h; omega
  | succ fu ih =>
    intro i j h h1 h2 h3
    rw [m_sort_Search_loop1]
    by_cases hij : i < j
    · rw [if_pos (by omega), half_eq i j (by omega), hf _ (by omega)]
      simp only [Option.bind_some]
      by_cases hk : K ≤ (i + j) / 2
      · rw [if_neg (by simpa using hk)]
        exact ih i ((i + j) / 2) (by omega) h1 hk (by omega)
      · rw [if_pos (by simpa using hk)]
        have e : wr .i64 ((((i + j) / 2 : Nat) : Int) + 1) = (((i + j) / 2 + 1 : Nat) : Int) := wr_eq _ _ (by show (-9223372036854775808 : Int) ≤ _; omega) (by show _ ≤ (9223372036854775807 : Int); omega)
        rw [e]
        exact ih _ j (by omega) (by omega) h2 h3
    · rw [if_neg (by omega)]
      congr 2
      omega
theorem search_eq (f : Int → Option Bool) (K n : Nat) (hn : n < 1000000) (hK : K ≤ n) (hf : ∀ x : Nat, x < n → f (x : Int) = some (decide (K ≤ x))) : m_sort_Search (n : Int) f = some (K : Int) := by
  rw [m_sort_Search]
  have h := search_loop f K n hn hf ((n : Int).toNat + 1) 0 n (by simp) (by omega) hK (by omega)
  rw [show ((0 : Nat) : Int) = 0 from rfl] at h
  rw [h]
  rfl
end Go.Proofs
end
section
/- Plain facts about sorted insertion by a key. -/

namespace Go.Proofs
open Go.Tm
set_option linter.unusedSimpArgs false

section
variable {α : Type} (key : α → Int)

/-- put in ahead of the first that is not less -/
def insK (p : α) : List α → List α
  | [] => [p]
  | y :: l => if key y < key p then y :: insK p l else p :: y :: l
/-- the place of the first that is not less -/
def plc (v : Int) : List α → Nat
  | [] => 0
  | y :: l => if key y < v then plc v l + 1 else 0

theorem plc_le (v : Int) : ∀ l : List α, plc key v l ≤ l.length := by
  intro l
  induction l with
  | nil => exact Nat.le_refl _
  | cons y l ih =>
    simp only [plc, List.length_cons]
    split <;> omega
theorem plc_test [Inhabited α] (v : Int) : ∀ (l : List α), (l.map key).Pairwise (· < ·) → ∀ x, x < l.length → (key (l.getD x default) ≥ v ↔ plc key v l ≤ x) := by
  intro l
  induction l with
  | nil => intro _ x hx; cases hx
  | cons y l ih =>
    intro h x hx
    simp only [List.map_cons, List.pairwise_cons] at h
    simp only [plc]
    cases x with
    | zero =>
      simp only [List.getD_cons_zero]
      by_cases hy : key y < v
      · rw [if_pos hy]
        omega
      · rw [if_neg hy]
        omega
    | succ x =>
      simp only [List.getD_cons_succ]
      simp only [List.length_cons] at hx
      by_cases hy : key y < v
      · rw [if_pos hy, ih h.2 x (by omega)]
        omega
      · rw [if_neg hy]
        have hm : l.getD x default ∈ l := by
          rw [List.getD_eq_getElem?_getD, List.getElem?_eq_getElem (by omega)]
          exact List.getElem_mem _
        have := h.1 _ (List.mem_map_of_mem hm)
        omega
theorem plc_has [Inhabited α] (v : Int) : ∀ (l : List α), (l.map key).Pairwise (· < ·) → ((plc key v l < l.length ∧ key (l.getD (plc key v l) default) = v) ↔ v ∈ l.map key) := by
  intro l
  induction l with
  | nil => intro _; simp [plc]
  | cons y l ih =>
    intro h
    simp only [List.map_cons, List.pairwise_cons] at h
    simp only [plc]
    by_cases hy : key y < v
    · rw [if_pos hy, List.getD_cons_succ, List.map_cons, List.mem_cons, ← ih h.2]
      simp only [List.length_cons]
      have : v ≠ key y := by omega
      simp only [this, false_or]
      omega
    · rw [if_neg hy, List.getD_cons_zero, List.map_cons, List.mem_cons]
      simp only [List.length_cons]
      constructor
      · intro hh; exact .inl hh.2.symm
      · rintro (hh | hh)
        · exact ⟨by omega, hh.symm⟩
        · have := h.1 _ hh
          omega
theorem ins_take (p : α) : ∀ l : List α, l.take (plc key (key p) l) ++ p :: l.drop (plc key (key p) l) = insK key p l := by
  intro l
  induction l with
  | nil => rfl
  | cons y l ih =>
    simp only [plc, insK]
    split
    · simp only [List.take_succ_cons, List.drop_succ_cons, List.cons_append, ih]
    · rfl
theorem ins_mem (p : α) (x : α) : ∀ l : List α, x ∈ insK key p l ↔ x = p ∨ x ∈ l := by
  intro l
  induction l with
  | nil => simp [insK]
  | cons y l ih =>
    simp only [insK]
    split
    · simp only [List.mem_cons, ih]
      constructor
      · rintro (h | h | h) <;> simp [h]
      · rintro (h | h | h) <;> simp [h]
    · simp only [List.mem_cons]
theorem ins_len (p : α) : ∀ l : List α, (insK key p l).length = l.length + 1 := by
  intro l
  induction l with
  | nil => rfl
  | cons y l ih =>
    simp only [insK]
    split <;> simp [ih]
theorem ins_keys (p : α) (v : Int) (l : List α) : v ∈ (insK key p l).map key ↔ v = key p ∨ v ∈ l.map key := by
  simp only [List.mem_map, ins_mem]
  constructor
  · rintro ⟨x, rfl | hx, rfl⟩
    · exact .inl rfl
    · exact .inr ⟨x, hx, rfl⟩
  · rintro (rfl | ⟨x, hx, rfl⟩)
    · exact ⟨p, .inl rfl, rfl⟩
    · exact ⟨x, .inr hx, rfl⟩
theorem ins_rise (m : List Int) (p : α) (hp : key p ∈ m) : ∀ (l : List α) (k : Option Int), (match k with | none => True | some k => k < key p) → key p ∉ l.map key → riseS m k (l.map key) = true → riseS m k ((insK key p l).map key) = true := by
  intro l
  induction l with
  | nil =>
    intro k hk _ _
    cases k with
    | none => simp [insK, riseS, hp]
    | some k =>
      have : k < key p := hk
      simp [insK, riseS, hp, this]
  | cons y l ih =>
    intro k hk hn h
    simp only [List.map_cons, List.mem_cons, not_or] at hn
    simp only [List.map_cons, riseS, Bool.and_eq_true] at h
    simp only [insK]
    by_cases hy : key y < key p
    · rw [if_pos hy]
      simp only [List.map_cons, riseS, Bool.and_eq_true]
      exact ⟨h.1, ih (some (key y)) hy hn.2 h.2⟩
    · rw [if_neg hy]
      have hlt : key p < key y := by omega
      simp only [List.map_cons, riseS, Bool.and_eq_true]
      refine ⟨⟨?_, by simpa using hp⟩, ⟨⟨by simpa using hlt, h.1.2⟩, h.2⟩⟩
      cases k with
      | none => rfl
      | some k => simpa using hk
end

theorem rise_lt {m : List Int} : ∀ (l : List Int) (k : Int), riseS m (some k) l = true → ∀ x ∈ l, k < x := by
  intro l
  induction l with
  | nil => intro _ _ x hx; cases hx
  | cons y l ih =>
    intro k h x hx
    simp only [riseS, Bool.and_eq_true, decide_eq_true_eq] at h
    rcases List.mem_cons.1 hx with rfl | hx
    · exact h.1.1
    · have := ih y h.2 x hx; omega
theorem rise_pw {m : List Int} : ∀ (l : List Int) (k : Option Int), riseS m k l = true → l.Pairwise (· < ·) := by
  intro l
  induction l with
  | nil => intro _ _; exact .nil
  | cons y l ih =>
    intro k h
    simp only [riseS, Bool.and_eq_true] at h
    exact .cons (rise_lt l y h.2) (ih _ h.2)
/-- the search for a key's place -/
theorem searchK {α : Type} [Inhabited α] (key : α → Int) (l : List α) (v : Int) (f : Int → Option Bool) (hl : l.length < 1000000) (hs : (l.map key).Pairwise (· < ·)) (hf : ∀ x : Nat, x < l.length → f (x : Int) = some (decide (key (l.getD x default) ≥ v))) : m_sort_Search (l.length : Int) f = some (plc key v l : Int) :=
  search_eq f _ _ hl (plc_le key v l) fun x hx => by rw [hf x hx, decide_eq_decide.2 (plc_test key v l hs x hx)]
theorem most_nil (m : List Int) : mostS m [] = false := by
  unfold mostS
  have : m.filter (hasI []) = [] := by
    rw [List.filter_eq_nil_iff]
    intro x _; simp [hasI]
  rw [this]
  simp
  omega
end Go.Proofs
end
section
/- What attempt.Promised and attempt.Accepted do to valid attempts. -/


namespace Go.Proofs
open Go.Tm
set_option linter.unusedSimpArgs false

abbrev insN := insK TPromise.Node
/-- the attempt, as its promises are -/
def withP (a : TAttempt) (l : List TPromise) : TAttempt :=
  if mostS a.Members (l.map TPromise.Node) = true then { a with Phase := 2, Value := bestS l a.Wish 0, Promises := l } else { a with Promises := l }
def promisedS (a : TAttempt) (p : TPromise) : TAttempt :=
  if p.Node ∈ a.Promises.map TPromise.Node then a else withP a (insN p a.Promises)
def CanP (a : TAttempt) (b : Int) (p : TPromise) : Prop := Valid a ∧ a.Phase = 1 ∧ b = a.Ballot ∧ p.Node ∈ a.Members ∧ MayS p b

theorem Valid.kept {a : TAttempt} (h : Valid a) (h0 : a.Phase ≠ 0) : Kept a := by
  unfold Valid at h
  rw [if_neg h0] at h
  exact h.2
theorem twin_eq (a : TAttempt) (h1 : a.Members.length < 1000000) (h2 : a.Promises.length < 1000000) (h3 : a.Accepted.length < 1000000) : m_attempt_Twin a = some a := by
  rw [m_attempt_Twin, m_slices_Clone_int_int, m_slices_Clone_Promise_Promise, m_slices_Clone_int_int, if_pos h1, if_pos h2, if_pos h3]
  rfl
theorem Kept.lens {a : TAttempt} (h : Kept a) : a.Members.length ≤ 6 ∧ a.Promises.length ≤ 6 ∧ a.Accepted.length ≤ 6 := by
  have h1 := riseS_len h.members _ h.nodes
  rw [List.length_map] at h1
  exact ⟨h.members.1, h1, riseS_len h.members _ h.accepted⟩

theorem promised1_eq (a : TAttempt) (p : TPromise) (x : Nat) (hx : x < a.Promises.length) : m_attempt_Promised_1 (x : Int) a p = some (decide ((a.Promises.getD x default).Node ≥ p.Node)) := by
  rw [m_attempt_Promised_1, if_pos (by omega)]
  rfl

theorem promised_eq (a : TAttempt) (b : Int) (p : TPromise) (hl : a.Promises.length < 1000000) : ∃ r, m_attempt_Promised a b p = some r ∧ (r.2 = 0 ↔ CanP a b p) ∧ (r.2 = 0 → r.1 = promisedS a p) := by
  rw [m_attempt_Promised]
  obtain ⟨e, he, hv⟩ := check_eq a hl
  rw [he]
  simp only [Option.bind_some]
  by_cases hva : Valid a
  · have h0 := hv.2 hva
    subst h0
    rw [if_neg (by simp)]
    by_cases h1 : a.Phase = 1 ∧ b = a.Ballot
    · obtain ⟨h1, h2⟩ := h1
      rw [if_pos (by simp [h1, h2]), has_eq]
      simp only [Option.bind_some]
      by_cases h3 : p.Node ∈ a.Members
      · rw [if_neg (by simp [h1, h2, h3]), may_eq]
        simp only [Option.bind_some]
        by_cases h4 : MayS p b
        · rw [if_neg (by simp [h4])]
          have hk := hva.kept (by omega)
          obtain ⟨l1, l2, l3⟩ := hk.lens
          rw [twin_eq a (by omega) (by omega) (by omega)]
          simp only [Option.bind_some]
          have hpw : (a.Promises.map TPromise.Node).Pairwise (· < ·) := rise_pw _ _ hk.nodes
          rw [searchK TPromise.Node a.Promises p.Node _ (by omega) hpw (fun x hx => promised1_eq a p x hx)]
          simp only [Option.bind_some, Int.toNat_natCast]
          have hle := plc_le TPromise.Node p.Node a.Promises
          have hhas := plc_has TPromise.Node p.Node a.Promises hpw
          have htake := ins_take TPromise.Node p a.Promises
          have hkeys := ins_keys TPromise.Node p
          have hlen := ins_len TPromise.Node p a.Promises
          have hrise := ins_rise TPromise.Node a.Members p h3 a.Promises none trivial
          generalize plc TPromise.Node p.Node a.Promises = K at *
          rw [if_pos (by omega)]
          have hcan : CanP a b p := ⟨hva, h1, h2, h3, h4⟩
          by_cases hin : p.Node ∈ a.Promises.map TPromise.Node
          · rw [if_pos (by have := hhas.2 hin; exact ⟨by omega, this.2⟩)]
            refine ⟨_, rfl, by simp [hcan], fun _ => ?_⟩
            unfold promisedS
            rw [if_pos hin]
          · rw [if_neg (fun hh => hin (hhas.1 ⟨by omega, hh.2⟩)), if_pos (by omega), if_pos (by omega), htake, nodes_eq _ (by omega)]
            have hr := hrise hin hk.nodes
            have hln := riseS_len hk.members _ hr
            simp only [Option.bind_some, amost_eq _ _ hk.members (Nat.le_trans hln (by omega)), best_eq]
            unfold promisedS
            rw [if_neg hin]
            unfold withP
            cases hm : mostS a.Members ((insK TPromise.Node p a.Promises).map TPromise.Node) with
            | true => exact ⟨_, rfl, by simp [hcan], fun _ => rfl⟩
            | false => exact ⟨_, rfl, by simp [hcan], fun _ => rfl⟩
        · rw [if_pos (by simp [h4])]
          exact ⟨_, rfl, by simp [CanP, h4], by simp⟩
      · rw [if_pos (by simp [h3])]
        exact ⟨_, rfl, by simp [CanP, h3], by simp⟩
    · have h2 : (¬ (a.Phase = 1)) ∨ (¬ (b = a.Ballot)) := by
        by_cases h : a.Phase = 1
        · exact .inr fun hh => h1 ⟨h, hh⟩
        · exact .inl h
      rw [if_neg (fun h => h h2)]
      simp only [Option.bind_some]
      rw [if_pos (.inl h2)]
      exact ⟨_, rfl, ⟨fun h => by simp at h, fun h => absurd ⟨h.2.1, h.2.2.1⟩ h1⟩, by simp⟩
  · have h0 : e ≠ 0 := fun h => hva (hv.1 h)
    rw [if_pos h0]
    exact ⟨_, rfl, ⟨fun h => absurd h h0, fun h => absurd h.1 hva⟩, fun h => absurd h h0⟩

theorem promised_kept {a : TAttempt} {p : TPromise} (h : CanP a a.Ballot p) : Valid (promisedS a p) := by
  obtain ⟨hv, h1, _, h3, h4⟩ := h
  unfold promisedS
  split
  · exact hv
  · rename_i hin
    have hk := hv.kept (by omega)
    have hacc : a.Value = [] ∧ a.Accepted = [] := by
      unfold Valid at hv
      rw [if_neg (by omega)] at hv
      rcases hv.1 with h | h | h
      · exact h.2
      · omega
      · omega
    have hr := ins_rise TPromise.Node a.Members p h3 a.Promises none trivial hin hk.nodes
    have hmay : ∀ q ∈ insN p a.Promises, MayS q a.Ballot := by
      intro q hq
      rcases (ins_mem TPromise.Node p q a.Promises).1 hq with rfl | hq
      · exact h4
      · exact hk.may q hq
    unfold withP
    split
    · rename_i hm
      unfold Valid
      rw [if_neg (by simp)]
      exact ⟨.inr (.inl rfl), ⟨hk.ballot, hk.members, hk.wish, hr, hk.accepted, hmay, by simpa using hm, by rw [hk.chosen, h1]; rfl, .inr rfl⟩⟩
    · rename_i hm
      unfold Valid
      rw [if_neg (by simp [h1])]
      exact ⟨.inl ⟨h1, hacc⟩, ⟨hk.ballot, hk.members, hk.wish, hr, hk.accepted, hmay, by simpa [h1] using hm, hk.chosen, .inl h1⟩⟩

end Go.Proofs
end
section
/- Models of functions, printed by gw.py. -/








namespace Go.Proofs
open Go.Tm

end Go.Proofs
end
section
/- Models of functions, printed by gw.py. -/








namespace Go.Proofs
open Go.Tm

end Go.Proofs
end
section
/- The law AttemptTells, in plain Lean. -/





namespace Go.Proofs
open Go.Tm
set_option linter.unusedSimpArgs false

theorem alive_eq : m_towncrierlaw08_alive = some true := by decide +kernel

theorem begin_eq (m : List Int) (b : Int) (w : List UInt8) : ∃ r, m_attempt_Begin m b w = some r ∧ (r.2 = 0 → QOk m ∧ BOk b ∧ w.length ≤ 1024 ∧ r.1 = ⟨1, b, m, w, [], [], []⟩) := by
  rw [m_attempt_Begin]
  by_cases hq : QOk m
  · rw [(qok_iff m).2 hq]
    simp only [Option.bind_some, not_true_eq_false, if_false, bcheck_eq]
    by_cases hb : BOk b
    · rw [if_pos hb]
      simp only [not_true_eq_false, if_false]
      by_cases hw : w.length ≤ 1024
      · rw [if_neg (by omega), m_slices_Clone_int_int, if_pos (by have := hq.1; omega)]
        exact ⟨_, rfl, fun _ => ⟨hq, hb, hw, rfl⟩⟩
      · rw [if_pos (by omega)]
        exact ⟨_, rfl, by simp⟩
    · rw [if_neg hb, if_pos (by simp)]
      exact ⟨_, rfl, by simp⟩
  · obtain ⟨e, he, hne⟩ := qcheck_ne hq
    rw [he]
    simp only [Option.bind_some]
    rw [if_pos hne]
    exact ⟨_, rfl, fun h => absurd h hne⟩
theorem begun_valid {m : List Int} {b : Int} {w : List UInt8} (hq : QOk m) (hb : BOk b) (hw : w.length ≤ 1024) : Valid ⟨1, b, m, w, [], [], []⟩ := by
  unfold Valid
  rw [if_neg (by simp)]
  exact ⟨.inl ⟨rfl, rfl, rfl⟩, ⟨hb, hq, hw, rfl, rfl, (fun p hp => by cases hp), by simpa using most_nil m, by simpa using most_nil m, .inl rfl⟩⟩

structure InvT (m : List Int) (b : Int) (w : List UInt8) (a : TAttempt) : Prop where
  valid : Valid a
  bal : a.Ballot = b
  wish : a.Wish = w
  mem : a.Members = m
  ph : a.Phase = 1 ∨ a.Phase = 2
theorem promised_inv {m : List Int} {b : Int} {w : List UInt8} {a : TAttempt} {p : TPromise} (h : InvT m b w a) (hc : CanP a b p) : InvT m b w (promisedS a p) := by
  have hv := promised_kept (a := a) (p := p) (by rw [h.bal]; exact hc)
  refine ⟨hv, ?_, ?_, ?_, ?_⟩
  · unfold promisedS withP; split
    · exact h.bal
    · split <;> exact h.bal
  · unfold promisedS withP; split
    · exact h.wish
    · split <;> exact h.wish
  · unfold promisedS withP; split
    · exact h.mem
    · split <;> exact h.mem
  · unfold promisedS withP; split
    · exact h.ph
    · split
      · exact .inr rfl
      · exact h.ph
theorem tells_loop1 (m : List Int) (b : Int) (w : List UInt8) : ∀ (l : List TPromise) (a : TAttempt), InvT m b w a → ∃ z, m_towncrierlaw08_AttemptTells_loop1 b true l a.Phase a.Ballot a.Members a.Wish a.Value a.Promises a.Accepted = some z ∧ (z = .inl true ∨ ∃ a', InvT m b w a' ∧ z = .inr (a'.Phase, a'.Ballot, a'.Members, a'.Wish, a'.Value, a'.Promises, a'.Accepted)) := by
  intro l
  induction l with
  | nil => intro a h; exact ⟨_, rfl, .inr ⟨a, h, rfl⟩⟩
  | cons y l ih =>
    intro a h
    rw [m_towncrierlaw08_AttemptTells_loop1]
    by_cases hl : (y.Value.length : Int) > 5000
    · rw [if_pos hl]
      exact ⟨_, rfl, .inl rfl⟩
    · rw [if_neg hl]
      have hk := h.valid.kept (by have := h.ph; omega)
      obtain ⟨r, hr, h1, h2⟩ := promised_eq a b y (by have := hk.lens; omega)
      rw [show (⟨a.Phase, a.Ballot, a.Members, a.Wish, a.Value, a.Promises, a.Accepted⟩ : TAttempt) = a from rfl, hr]
      simp only [Option.bind_some]
      by_cases h0 : r.2 = 0
      · rw [if_pos h0, h2 h0]
        exact ih _ (promised_inv h (h1.1 h0))
      · rw [if_neg h0]
        exact ih a h

def maxB : List TPromise → Int → Int
  | [], n => n
  | y :: l, n => maxB l (max n y.Ballot)
theorem wr_nat1 (k : Nat) (h : k < 1000000) : wr .i64 ((k : Int) + 1) = ((k + 1 : Nat) : Int) := wr_eq _ _ (by show (-9223372036854775808 : Int) ≤ _; omega) (by show _ ≤ (9223372036854775807 : Int); omega)
theorem getD_drop {α : Type} [Inhabited α] (l : List α) (k : Nat) (h : k < l.length) : l.drop k = l.getD k default :: l.drop (k + 1) := by
  rw [List.drop_eq_getElem_cons h]
  simp [List.getD, List.getElem?_eq_getElem h]
theorem tells_loop2 (l : List TPromise) (hl : l.length < 1000000) : ∀ (fu k : Nat) (n : Int), l.length - k < fu → k ≤ l.length → m_towncrierlaw08_AttemptTells_loop2 l fu n (k : Int) = some (maxB (l.drop k) n) := by
  intro fu
  induction fu with
  | zero => intro k n h; omega
  | succ fu ih =>
    intro k n h hk
    rw [m_towncrierlaw08_AttemptTells_loop2]
    by_cases hlt : k < l.length
    · rw [if_pos (by omega), if_pos (by omega), wr_nat1 k (by omega), ih (k + 1) _ (by omega) hlt, getD_drop l k hlt]
      rfl
    · rw [if_neg (by omega), List.drop_eq_nil_of_le (by omega)]
      rfl
theorem tells_loop3 (s : List UInt8) (l : List TPromise) (g : Int) (hg : g > 0) (hl : l.length < 1000000) : ∀ (fu k : Nat) (b : Bool), l.length - k < fu → k ≤ l.length → m_towncrierlaw08_AttemptTells_loop3 s l g fu b (k : Int) = some (if k = l.length then b else (decide (k > 0) && b) || ((l.drop k).any fun p => p.Ballot == g && p.Value == s)) := by
  intro fu
  induction fu with
  | zero => intro k n h; omega
  | succ fu ih =>
    intro k b h hk
    rw [m_towncrierlaw08_AttemptTells_loop3]
    by_cases hlt : k < l.length
    · rw [if_pos (by omega), if_pos (fun _ => by omega), if_pos (fun _ => by omega), wr_nat1 k (by omega), ih (k + 1) _ (by omega) hlt, if_neg (show ¬ k = l.length by omega), getD_drop l k hlt, Int.toNat_natCast]
      have e : (decide ((k : Int) > 0)) = decide (k > 0) := by rw [decide_eq_decide]; omega
      rw [e]
      congr 1
      by_cases hk1 : k + 1 = l.length
      · rw [if_pos hk1, List.drop_eq_nil_of_le (by omega)]
        simp
      · rw [if_neg hk1]
        simp only [List.any_cons, Bool.or_assoc, gt_iff_lt, Nat.zero_lt_succ, decide_true, Bool.true_and]
    · rw [if_neg (by omega), if_pos (by omega)]
theorem best_max : ∀ (l : List TPromise) (s : List UInt8) (n : Int), (maxB l n = n ∧ bestS l s n = s) ∨ (n < maxB l n ∧ ∃ p ∈ l, p.Ballot = maxB l n ∧ p.Value = bestS l s n) := by
  intro l
  induction l with
  | nil => intro s n; exact .inl ⟨rfl, rfl⟩
  | cons y l ih =>
    intro s n
    rw [maxB, bestS]
    by_cases h : y.Ballot > n
    · rw [if_pos h]
      have e : max n y.Ballot = y.Ballot := by omega
      rw [e]
      right
      rcases ih y.Value y.Ballot with ⟨h1, h2⟩ | ⟨h1, p, h2, h3, h4⟩
      · exact ⟨by omega, y, List.mem_cons_self, h1.symm, h2.symm⟩
      · exact ⟨by omega, p, List.mem_cons_of_mem _ h2, h3, h4⟩
    · rw [if_neg h]
      have e : max n y.Ballot = n := by omega
      rw [e]
      rcases ih s n with h1 | ⟨h1, p, h2, h3⟩
      · exact .inl h1
      · exact .inr ⟨h1, p, List.mem_cons_of_mem _ h2, h3⟩

theorem tells_law (m : List Int) (b : Int) (w : List UInt8) (l : List TPromise) : m_towncrierlaw08_AttemptTells m b w l = some true := by
  rw [m_towncrierlaw08_AttemptTells, alive_eq]
  simp only [Option.bind_some, not_true_eq_false, if_false]
  obtain ⟨r, hr, hr0⟩ := begin_eq m b w
  rw [hr]
  simp only [Option.bind_some]
  by_cases h0 : (¬ (r.2 = 0)) ∨ ((l.length : Int) > 50)
  · rw [if_pos h0]
  · rw [if_neg h0]
    have h00 : r.2 = 0 := Classical.byContradiction fun h => h0 (.inl h)
    obtain ⟨hq, hb, hw, hr1⟩ := hr0 h00
    rw [hr1]
    obtain ⟨z, hz, hzz⟩ := tells_loop1 m b w l ⟨1, b, m, w, [], [], []⟩ ⟨begun_valid hq hb hw, rfl, rfl, rfl, .inl rfl⟩
    rw [hz]
    simp only [Option.bind_some]
    rcases hzz with rfl | ⟨a, ha, rfl⟩
    · rfl
    · dsimp only
      have hp := ha.ph
      have hv := ha.valid
      have hk := hv.kept (by omega)
      obtain ⟨l1, l2, l3⟩ := hk.lens
      rw [nodesL_eq _ (by omega)]
      simp only [Option.bind_some]
      have hmm := ha.mem
      rw [most_eq m _ hq (by rw [List.length_map]; omega)]
      simp only [Option.bind_some]
      have hmost := hk.most
      rw [hmm] at hmost
      obtain ⟨e, he, hee⟩ := check_eq a (by omega)
      have he0 := hee.2 hv
      subst he0
      have e1 : mostS m (a.Promises.map TPromise.Node) = (a.Phase == 2) := by
        rw [hmost, Bool.eq_iff_iff]
        simp only [decide_eq_true_eq, beq_iff_eq]
        omega
      rw [show (⟨a.Phase, a.Ballot, a.Members, a.Wish, a.Value, a.Promises, a.Accepted⟩ : TAttempt) = a from rfl, he, e1]
      simp only [not_true_eq_false, BEq.rfl, Bool.not_true, Bool.false_eq_true, or_self, not_false_eq_true, if_true, Option.bind_some, ha.bal, ha.wish, if_false, Bool.true_and]
      rcases hp with h1 | h2
      · have hval : a.Value = [] := by
          unfold Valid at hv
          rw [if_neg (by omega)] at hv
          rcases hv.1 with h | h | h
          · exact h.2.1
          · omega
          · omega
        rw [h1, hval]
        rfl
      · rw [h2]
        rw [if_neg (by simp)]
        have hval : a.Value = bestS a.Promises w 0 := by
          rcases hk.value with h | h
          · omega
          · rw [ha.wish] at h; exact h
        have t2 := tells_loop2 a.Promises (by omega) (a.Promises.length + 1) 0 0 (by omega) (by omega)
        rw [show ((0 : Nat) : Int) = 0 from rfl] at t2
        rw [t2, List.drop_zero]
        simp only [Option.bind_some]
        rcases best_max a.Promises w 0 with ⟨h3, h4⟩ | ⟨h3, p, h4, h5, h6⟩
        · rw [h3, hval, h4]
          rw [m_towncrierlaw08_AttemptTells_loop3, if_neg (by omega)]
          simp
        · have t3 := tells_loop3 a.Value a.Promises (maxB a.Promises 0) h3 (by omega) (a.Promises.length + 1) 0 (a.Value == w) (by omega) (by omega)
          rw [show ((0 : Nat) : Int) = 0 from rfl] at t3
          rw [t3]
          have hne : ¬ (0 = a.Promises.length) := by
            intro h
            have : a.Promises = [] := List.length_eq_zero_iff.1 h.symm
            rw [this] at h4; cases h4
          rw [if_neg hne, List.drop_zero]
          have hany : (a.Promises.any fun p => p.Ballot == maxB a.Promises 0 && p.Value == a.Value) = true := by
            rw [List.any_eq_true]
            exact ⟨p, h4, by rw [h5, h6, ← hval]; simp⟩
          rw [hany]
          simp
end Go.Proofs
end
section
/- The laws AttemptChosen and AttemptOrder, in plain Lean. -/

namespace Go.Proofs
open Go.Tm
set_option linter.unusedSimpArgs false

/-! ### AttemptChosen -/
theorem Valid.lens {a : TAttempt} (h : Valid a) : a.Members.length ≤ 6 ∧ a.Promises.length ≤ 6 ∧ a.Accepted.length ≤ 6 := by
  by_cases h0 : a.Phase = 0
  · unfold Valid at h
    rw [if_pos h0] at h
    rw [h]
    simp
  · exact (h.kept h0).lens
end Go.Proofs
end
section
/- A law's row, off its contract: what is handed in, read. -/






namespace Go.Tm
open Go.RowKit Go.WideShapes Go.ChangeShapes

/-! ## What is handed in, read -/
def aggT (P : Program) (t : TypeId) : Bool := match P.underlying t with
  | some (.struct _) => true
  | _ => false

def mkD (P : Program) (t : TypeId) (l : List D) : D := bif aggT P t then .agg l else l.headD .undef

def fieldsIn (P : Program) (chk : TypeId → Bool) : Nat → List Field → Nat → Bool
  | off, [], tot => Nat.beq off tot
  | off, f :: fs, tot => Nat.beq f.offset off && chk f.type && fieldsIn P chk (off + P.cellsOf f.type) fs tot

/-- plain data: bools, numbers, strings, lists and structs of such -/
def dataT (P : Program) : Nat → TypeId → Bool
  | 0, _ => false
  | n + 1, t => match P.underlying t with
    | some .bool => true
    | some (.int _) => true
    | some .string => true
    | some (.slice e) => dataT P n e && Nat.blt 0 (P.cellsOf e) && (aggT P e || Nat.beq (P.cellsOf e) 1)
    | some (.struct fs) => fieldsIn P (dataT P n) 0 fs.toList (P.cellsOf t)
    | _ => false

def typedL (p : TypeId → List D → Prop) : List TypeId → List D → Prop
  | [], l => l = []
  | t :: ts, l => ∃ l1 l2, l = l1 ++ l2 ∧ p t l1 ∧ typedL p ts l2

/-- cells that are such data -/
def typed (P : Program) : Nat → TypeId → List D → Prop
  | 0, _, _ => False
  | n + 1, t, l => match P.underlying t with
    | some .bool => ∃ b, l = [.bool b]
    | some (.int k) => ∃ m, l = [.int k m]
    | some .string => ∃ s, l = [.str s]
    | some (.slice e) => ∃ xs : List (List D), l = [.imm (P.cellsOf e) (xs.map (mkD P e)) 4] ∧ ∀ x ∈ xs, typed P n e x
    | some (.struct fs) => typedL (typed P n) (fs.toList.map (·.type)) l
    | _ => False

theorem reps_append' {C : Cx} : ∀ {l1 l2 : List D} {v1 v2 : List Value}, reps C l1 v1 → reps C l2 v2 → reps C (l1 ++ l2) (v1 ++ v2)
  | [], l2, v1, v2, h1, h2 => by simp only [reps] at h1; subst h1; simpa using h2
  | d :: ds, l2, v1, v2, h1, h2 => by
    simp only [reps] at h1
    obtain ⟨v, vs, rfl, hd, h1⟩ := h1
    simp only [List.cons_append, reps]
    exact ⟨v, vs ++ v2, rfl, hd, reps_append' h1 h2⟩

theorem elems_of {C : Cx} {b s : Nat} {p : List D → Prop} {f : List D → D} : ∀ (n o : Nat), (∀ i, i < n → ∃ l v, p l ∧ rep C (f l) v ∧ v.cells.size = s ∧ v.cells.toList.all (·.oneCell') = true ∧ C.w.rangeAt b (o + i * s) v.cells.toList) →
    ∃ xs : List (List D), xs.length = n ∧ elems C (xs.map f) b o s ∧ ∀ x ∈ xs, p x
  | 0, o, _ => ⟨[], rfl, by simp only [List.map_nil, elems], by simp⟩
  | n + 1, o, h => by
    obtain ⟨l, v, h1, h2, h3, h4, h5⟩ := h 0 (by omega)
    obtain ⟨xs, g1, g2, g3⟩ := elems_of n (o + s) (fun i hi => by
      obtain ⟨l, v, h1, h2, h3, h4, h5⟩ := h (i + 1) (by omega)
      exact ⟨l, v, h1, h2, h3, h4, by rwa [show o + (i + 1) * s = o + s + i * s by rw [Nat.add_mul]; omega] at h5⟩)
    refine ⟨l :: xs, by simp [g1], ?_, by simpa using ⟨h1, g3⟩⟩
    simp only [List.map_cons, elems]
    exact ⟨⟨v, h2, h3, h4, by simpa using h5⟩, g2⟩

theorem fieldsIn_le {P : Program} {chk : TypeId → Bool} : ∀ (fs : List Field) (off tot : Nat), fieldsIn P chk off fs tot = true → off ≤ tot
  | [], off, tot, h => Nat.le_of_eq (Nat.eq_of_beq_eq_true h)
  | f :: fs, off, tot, h => by
    simp only [fieldsIn, Bool.and_eq_true] at h
    have := fieldsIn_le fs _ _ h.2
    omega

section
variable {H : Type} {enc : TypeId × Value → H} {P : Program} {w : World} {sp : Nat → Bool}

theorem trod_reps : ∀ (n fuel : Nat) (t : TypeId) (cs : List Value) (x : DataW H × List MemPlace) (C : Cx), C.w = w → (∀ b, ¬ C.M b) → (∀ b, C.Z b) → dataT P n t = true → DataW.trod enc P w 0 sp true fuel t cs = some x →
    ∃ l, reps C l cs ∧ typed P n t l ∧ cs.all (·.oneCell') = true
  | 0, _, _, _, _, _, _, _, _, h, _ => by simp [dataT] at h
  | n + 1, fuel, t, cs, x, C, hw, hM, hlo, hd, h => by
    unfold dataT at hd
    split at hd
    · rename_i ht
      simp only [typed, ht]
      obtain ⟨b, rfl, _⟩ := DataW.trod_bool ht h
      exact ⟨[.bool b], by simp only [reps, rep]; exact ⟨_, _, rfl, rfl, rfl⟩, ⟨b, rfl⟩, rfl⟩
    · rename_i k ht
      simp only [typed, ht]
      obtain ⟨m, rfl, _, hwf⟩ := DataW.trod_int ht h
      simp only [Lit.wf, Bool.and_eq_true, decide_eq_true_eq] at hwf
      exact ⟨[.int k m], by simp only [reps, rep]; exact ⟨_, _, rfl, ⟨rfl, hwf⟩, rfl⟩, ⟨m, rfl⟩, rfl⟩
    · rename_i ht
      simp only [typed, ht]
      obtain ⟨s, rfl, _, hs⟩ := DataW.trod_string ht h
      refine ⟨[.str s.data.toList], ?_, ⟨_, rfl⟩, rfl⟩
      simp only [reps, rep]
      refine ⟨_, _, rfl, ⟨by rw [Array.toArray_toList], ?_⟩, rfl⟩
      have h1 : s.data.toList.length = s.size := by rw [Array.length_toList]; rfl
      have h2 : s.size ≤ 9223372036854775807 := hs
      rw [h1]; omega
    · rename_i e ht
      simp only [typed, ht]
      simp only [Bool.and_eq_true, Bool.or_eq_true] at hd
      obtain ⟨⟨hde, hpos⟩, hone⟩ := hd
      have hpos : 0 < P.cellsOf e := Nat.le_of_ble_eq_true hpos
      rcases DataW.trod_slice ht h with ⟨rfl, _⟩ | ⟨a, len, cap, els, rest, m, _, rfl, _, hb, hl, hc, hlen, hel, _⟩
      · refine ⟨[.imm (P.cellsOf e) (([] : List (List D)).map (mkD P e)) 4], ?_, ⟨[], rfl, fun _ h => by cases h⟩, rfl⟩
        simp only [reps, rep, List.map_nil, List.length_nil]
        exact ⟨_, _, rfl, ⟨none, 0, rfl, by simp, by simp, by simp, by simp, by simp, by simp, by simp, .inl trivial⟩, rfl⟩
      · have hc : cap ≤ 9223372036854775807 := hc
        have key : ∀ i, i < len → ∃ l v, typed P n e l ∧ rep (C.at C.Z) (mkD P e l) v ∧ v.cells.size = P.cellsOf e ∧ v.cells.toList.all (·.oneCell') = true ∧ (i = 0 → a.spot = none) ∧ a.block < w.heap.size ∧ w.rangeAt a.block (a.off + i * P.cellsOf e) v.cells.toList := by
          intro i hi
          have hi' := hel i hi
          have hsome : els[i]? = some els[i] := List.getElem?_eq_getElem (by omega)
          rw [hsome, Option.bind_eq_some_iff] at hi'
          obtain ⟨cs', hcs, htr⟩ := hi'
          obtain ⟨_, hclen, hcell⟩ := World.cells?_some hcs
          obtain ⟨l, g1, g2, g3⟩ := trod_reps n m e cs' _ (C.at C.Z) (by simpa [Cx.at] using hw) (by simpa [Cx.at] using hM) (by simpa [Cx.at] using hlo) hde htr
          have h0 := hcell 0 hpos
          have hc0 : cs'[0]? = some cs'[0] := List.getElem?_eq_getElem (by omega)
          rw [hc0] at h0
          have hadd : ∀ j, ((a.add (i * P.cellsOf e)).add j).block = a.block := by intro j; unfold Addr.add; split <;> split <;> rfl
          have hblk : a.block < w.heap.size ∧ ((a.add (i * P.cellsOf e)).add 0).spot = none := by
            unfold World.cell? at h0
            rw [hadd] at h0
            split at h0
            · rename_i c T fz hh
              have := (Array.getElem?_eq_some_iff.1 hh).1
              split at h0
              · cases h0
              · rename_i hs; exact ⟨this, by simpa using hs⟩
            · cases h0
          have hspot0 : (a.add (i * P.cellsOf e)).spot = none := by simpa [Addr.add] using hblk.2
          have hae : ∀ j, j < P.cellsOf e → (a.add (i * P.cellsOf e)).add j = ⟨a.block, a.off + i * P.cellsOf e + j, none⟩ := by
            intro j _
            unfold Addr.add at hspot0 ⊢
            split at hspot0
            · rename_i hz
              simp only [hz, if_true, Nat.add_zero]
              split
              · rename_i hj; subst hj; cases a; simp_all
              · rfl
            · rename_i hz
              simp only [hz, if_false]
              split
              · rename_i hj; subst hj; rfl
              · rfl
          have hrange : w.rangeAt a.block (a.off + i * P.cellsOf e) cs' := by
            intro j v hj
            have hjl := (List.getElem?_eq_some_iff.1 hj).1
            have := hcell j (by omega)
            rw [hae j (by omega), hj] at this
            exact this
          cases hag : aggT P e with
          | true =>
            refine ⟨l, .agg cs'.toArray, g2, ?_, by simp [Value.cells, hclen], by simpa [Value.cells] using g3, ?_, hblk.1, by simpa [Value.cells] using hrange⟩
            · simp only [mkD, hag, cond_true, rep]
              exact ⟨cs', rfl, g1⟩
            · rintro rfl; simpa [Addr.add] using hspot0
          | false =>
            rw [hag] at hone
            have h1 : P.cellsOf e = 1 := by simpa using hone
            rw [h1] at hclen
            obtain ⟨v, rfl⟩ := List.length_eq_one_iff.1 hclen
            obtain ⟨d, rfl⟩ : ∃ d, l = [d] := List.length_eq_one_iff.1 ((reps_length _ _ g1).symm.trans rfl)
            simp only [reps] at g1
            obtain ⟨v', vs', hv, hd, rfl⟩ := g1
            obtain rfl : v = v' := (List.cons.inj hv).1
            have hcv : v.cells = #[v] := by
              simp only [List.all_cons, List.all_nil, Bool.and_true] at g3
              cases v <;> first | rfl | simp [Value.oneCell'] at g3
            refine ⟨[d], v, g2, by simpa [mkD, hag] using hd, by simp [hcv, h1], by simpa [hcv] using g3, ?_, hblk.1, by simpa [hcv] using hrange⟩
            rintro rfl; simpa [Addr.add] using hspot0
        obtain ⟨xs, g1, g2, g3⟩ := elems_of (C := C.at C.Z) (b := a.block) (s := P.cellsOf e) (p := typed P n e) (f := mkD P e) len a.off (fun i hi => by
          obtain ⟨l, v, h1, h2, h3, h4, _, _, h5⟩ := key i hi
          exact ⟨l, v, h1, h2, h3, h4, by subst hw; exact h5⟩)
        refine ⟨[.imm (P.cellsOf e) (xs.map (mkD P e)) 4], ?_, ⟨xs, rfl, g3⟩, rfl⟩
        simp only [reps, rep, List.length_map, g1]
        refine ⟨_, _, rfl, ⟨some a, cap, rfl, hl, by omega, by simp, by simp, by simp, by simp, by simp, ?_⟩, rfl⟩
        rcases Nat.eq_zero_or_pos len with h0 | h0
        · left; subst h0; have := List.length_eq_zero_iff.1 g1; simp [this]
        · right
          obtain ⟨_, _, _, _, _, _, k1, k2, _⟩ := key 0 h0
          intro Z hZ
          have hZ : C.Z = Z := by simpa [Cx.zone] using hZ
          subst hZ
          exact ⟨a, rfl, k1 rfl, hM _, hlo _, by rw [hw]; exact k2, g2⟩
    · rename_i fs ht
      simp only [typed, ht]
      obtain ⟨xs, m, _, _, hcl, hxl, hf⟩ := DataW.trod_struct ht h
      have key : ∀ (gs : List Field) (k : Nat), (∀ i f, gs[i]? = some f → fs[k + i]? = some f) → ∀ off, fieldsIn P (dataT P n) off gs (P.cellsOf t) = true → off ≤ cs.length → 
          ∃ l, reps C l (cs.drop off) ∧ typedL (typed P n) (gs.map (·.type)) l ∧ (cs.drop off).all (·.oneCell') = true := by
        intro gs
        induction gs with
        | nil =>
          intro k _ off ho _
          simp only [fieldsIn] at ho
          have ho := Nat.eq_of_beq_eq_true ho
          have : cs.drop off = [] := by rw [ho, ← hcl]; simp
          rw [this]
          exact ⟨[], by simp only [reps], rfl, rfl⟩
        | cons f gs ih =>
          intro k hk off ho hle
          simp only [fieldsIn, Bool.and_eq_true] at ho
          obtain ⟨⟨h1, h2⟩, h3⟩ := ho
          have h1 := Nat.eq_of_beq_eq_true h1
          have hfk := hf k f (by simpa using hk 0 f rfl)
          have hkl : k < xs.length := by
            have := hk 0 f rfl
            rw [hxl]
            exact (Array.getElem?_eq_some_iff.1 (by simpa using this)).1
          rw [List.getElem?_eq_getElem hkl, h1] at hfk
          obtain ⟨l1, g1, g2, g3⟩ := trod_reps n m f.type _ _ C hw hM hlo h2 hfk
          have hl1 : ((cs.drop off).take (P.cellsOf f.type)).length = P.cellsOf f.type := by
            have := fieldsIn_le _ _ _ h3
            simp
            omega
          obtain ⟨l2, k1, k2, k3⟩ := ih (k + 1) (fun i f' hi => by have := hk (i + 1) f' (by simpa using hi); rwa [show k + (i + 1) = k + 1 + i by omega] at this) (off + P.cellsOf f.type) h3 (by
            simp at hl1; omega)
          have e : cs.drop off = (cs.drop off).take (P.cellsOf f.type) ++ cs.drop (off + P.cellsOf f.type) := by
            rw [← List.drop_drop, List.take_append_drop]
          refine ⟨l1 ++ l2, by rw [e]; exact reps_append' g1 k1, ⟨l1, l2, rfl, g2, k2⟩, by rw [e, List.all_append, g3, k3]; rfl⟩
      simpa using key fs.toList 0 (fun i f hi => by simpa using hi) 0 hd (Nat.zero_le _)
    · cases hd

/-- the arguments, read -/
theorem trod_rep {r : Reach} {b0 n : Nat} {t : TypeId} {v : Value} {d : DataW H} {ps : List MemPlace} {fr : Nat} (hd : dataT P n t = true) (hval : Value.okWide P w r b0 t v) (h : DataW.Trod enc P w 0 sp true t v d ps) :
    ∃ l, typed P n t l ∧ rep (cx0 w fr) (mkD P t l) v := by
  obtain ⟨fuel, h⟩ := h
  obtain ⟨l, h1, h2, h3⟩ := trod_reps n fuel t _ _ (cx0 w fr) rfl (fun _ h => h) (fun _ => trivial) hd h
  refine ⟨l, h2, ?_⟩
  unfold mkD aggT
  cases n with
  | zero => simp [dataT] at hd
  | succ n =>
    unfold dataT at hd
    unfold Value.okWide at hval
    split at hd
    case h_5 fs ht =>
      rw [ht] at hval ⊢
      obtain ⟨cs, rfl, _⟩ := hval
      simp only [cond_true, rep]
      exact ⟨cs.toList, by simp, by simpa [Value.cells] using h1⟩
    case h_6 => cases hd
    all_goals
      rename_i ht
      rw [ht] at hval ⊢
      simp only [cond_false]
      have hcv : v.cells = #[v] := by
        cases v with
        | agg cs => simp [Cell.okWide, Cell.ok, ht] at hval
        | _ => rfl
      rw [hcv] at h1
      have hl : ∃ d, l = [d] := List.length_eq_one_iff.1 ((reps_length _ _ h1).symm.trans rfl)
      obtain ⟨d, rfl⟩ := hl
      simp only [reps] at h1
      obtain ⟨v', vs', hv, hd', _⟩ := h1
      obtain rfl : v = v' := by simpa using (List.cons.inj hv).1
      exact hd'

def typedAll (P : Program) (n : Nat) : List TypeId → List D → Prop
  | [], l => l = []
  | t :: ts, l => ∃ c r, l = mkD P t c :: r ∧ typed P n t c ∧ typedAll P n ts r

theorem trodAll_reps {r : Reach} {b0 n fr : Nat} : ∀ {ts : List TypeId} {vs : List Value} {ds : List (DataW H)} {ps : List MemPlace}, ts.all (dataT P n) = true → (∀ (j : Nat) t v, ts[j]? = some t → vs[j]? = some v → Value.okWide P w r b0 t v) →
    DataW.TrodAll enc P w 0 sp true ts vs ds ps → ∃ l, typedAll P n ts l ∧ reps (cx0 w fr) l vs
  | [], [], [], _, _, _, _ => ⟨[], rfl, by simp only [reps]⟩
  | t :: ts, v :: vs, d :: ds, ps, hd, hval, h => by
    obtain ⟨p, q, h1, h2, _⟩ := h
    simp only [List.all_cons, Bool.and_eq_true] at hd
    obtain ⟨c, g1, g2⟩ := trod_rep (fr := fr) hd.1 (hval 0 t v rfl rfl) h1
    obtain ⟨l, k1, k2⟩ := trodAll_reps hd.2 (fun j t v h h' => hval (j + 1) t v h h') h2
    exact ⟨_ :: l, ⟨c, l, rfl, g1, k1⟩, by simp only [reps]; exact ⟨_, _, rfl, g2, k2⟩⟩
  | [], _ :: _, _, _, _, _, h => h.elim
  | [], [], _ :: _, _, _, _, h => h.elim
  | _ :: _, [], _, _, _, _, h => h.elim
  | _ :: _, _ :: _, [], _, _, _, h => h.elim

/-- data that lie below stay -/
theorem trodAll_stays (hl : laidOutB P = true) {W W' : World} (hB : Below W.heap.size W W') {sp' : Nat → Bool} : ∀ {ts : List TypeId} {vs : List Value} {ds : List (DataW H)} {ps : List MemPlace}, (ts.all fun t => P.readableRec t && Nat.blt t P.types.size) = true →
    DataW.TrodAll enc P W 0 (fun _ => true) true ts vs ds ps → (∀ p ∈ ps, p.block < W.heap.size ∧ sp' p.block = true) → DataW.TrodAll enc P W' 0 sp' true ts vs ds ps
  | [], [], [], _, _, h, _ => h
  | t :: ts, v :: vs, d :: ds, ps, hr, h, hp => by
    obtain ⟨p, q, h1, h2, rfl⟩ := h
    simp only [List.all_cons, Bool.and_eq_true] at hr
    refine ⟨p, q, WideElems.Trod_stays hl hr.1.1 (Nat.le_of_ble_eq_true hr.1.2) h1 (fun x hx => hB.same (hp x (by simp [hx])).1) (fun x hx => (hp x (by simp [hx])).2), ?_, rfl⟩
    exact trodAll_stays hl hB hr.2 h2 fun x hx => hp x (by simp [hx])
  | [], _ :: _, _, _, _, h, _ => h.elim
  | [], [], _ :: _, _, _, h, _ => h.elim
  | _ :: _, [], _, _, _, h, _ => h.elim
  | _ :: _, _ :: _, [], _, _, h, _ => h.elim

/-- a law's row, off its contract -/
theorem law_contract {K : FuncId} {f : Func} {s : ChangeSpec} {apart fresh : Bool} {n : Nat} {tb : TypeId} (hl : laidOutB P = true) (hr : (f.params.toList.all fun t => P.readableRec t && Nat.blt t P.types.size) = true)
    (hd : f.params.toList.all (dataT P n) = true) (hvars : s.vars = []) (hres : f.resultTypes = #[tb]) (hb : P.underlying tb = some .bool)
    (hfn : ∀ ds : List (DataW H), ds.length = f.params.size → s.fn H ds = { results := [.lit (.bool true)], args := ds })
    (hK : ∀ l, typedAll P n f.params.toList l → CallP P K l (.bool true)) {W : World} {base : Nat} {args : Array Value} {ds gs : List (DataW H)} {before : List MemPlace}
    (hval : ∀ (j : Nat) t v, f.params[j]? = some t → args[j]? = some v → Value.okWide P W .any base t v) (hW : DataW.Whole enc P f.params.toList s.vars apart W args.toList ds gs before) :
    Calls P K args W fun e W' => ∃ v, e = .returned v ∧ s.post enc P f apart fresh false false W args v W' := by
  have hW' := hW
  obtain ⟨p, q, hA, hV, rfl, hfz, hnd⟩ := hW
  rw [hvars] at hV
  have hlen : ds.length = f.params.size := by
    have : ∀ {ts : List TypeId} {vs : List Value} {ds : List (DataW H)} {ps : List MemPlace}, DataW.TrodAll enc P W 0 (fun _ => true) true ts vs ds ps → ds.length = ts.length := by
      intro ts
      induction ts with
      | nil => intro vs ds ps h; cases vs <;> cases ds <;> first | rfl | exact h.elim
      | cons t ts ih => intro vs ds ps h; cases vs <;> cases ds <;> first | (obtain ⟨_, _, _, h2, _⟩ := h; simp [ih h2]) | exact h.elim
    simpa using this hA
  have hgs : gs = [] ∧ q = [] := by
    cases gs with
    | nil => exact ⟨rfl, hV⟩
    | cons g gs => exact hV.elim
  obtain ⟨rfl, rfl⟩ := hgs
  obtain ⟨l, h1, h2⟩ := trodAll_reps (fr := W.heap.size) hd (fun j t v h h' => hval j t v (by simpa using h) (by simpa using h')) hA
  refine ((hK l h1).2 W _ h2).mono fun e W' ⟨v, he, hk, _, hv⟩ => ⟨v, he, ?_⟩
  simp only [rep] at hv
  subst hv
  have hB := hk.below
  have hlt := hW'.lt
  have hf := hfn ds hlen
  refine ⟨ds, [], p ++ [], [], p, [], hW', ?_, ?_, ?_, ?_, fun h => by cases h⟩
  · rw [List.append_nil, hf, hres]
    exact ⟨[], [], ⟨1, by simp [DataW.trod, Value.cells, hb]⟩, rfl, rfl⟩
  · rw [List.append_nil, hf]
    exact trodAll_stays hl hB hr hA fun x hx => ⟨hlt x (by simp [hx]), by simpa using hlt x (by simp [hx])⟩
  · rw [List.append_nil, hf, hvars]
    rfl
  · exact hB.frame _
end

/-! ## What typed data are, type by type -/
theorem list_of {α : Type} {f : α → D} {g : List D → D} : ∀ (xs : List (List D)), (∀ x ∈ xs, ∃ y, g x = f y) → ∃ l : List α, xs.map g = l.map f
  | [], _ => ⟨[], rfl⟩
  | x :: xs, h => by
    obtain ⟨y, hy⟩ := h x (by simp)
    obtain ⟨l, hl⟩ := list_of xs fun x hx => h x (by simp [hx])
    exact ⟨y :: l, by simp only [List.map_cons, hy, hl]⟩

section
variable {P : Program} {n : Nat} {t : TypeId} {l : List D}
theorem mkD_one {d : D} (ha : aggT P t = false) : mkD P t [d] = d := by simp only [mkD, ha, cond_false, List.headD_cons]
theorem mkD_agg (ha : aggT P t = true) : mkD P t l = .agg l := by simp only [mkD, ha, cond_true]
theorem typed_int {k : IntKind} (hu : P.underlying t = some (.int k)) (h : typed P (n + 1) t l) : ∃ m, l = [.int k m] := by
  rw [typed, hu] at h; exact h
theorem typed_str (hu : P.underlying t = some .string) (h : typed P (n + 1) t l) : ∃ s, l = [.str s] := by
  rw [typed, hu] at h; exact h
theorem typed_list {α : Type} (f : α → D) {e : TypeId} {s : Nat} (hu : P.underlying t = some (.slice e)) (ha : aggT P t = false) (hc : P.cellsOf e = s) (hx : ∀ x, typed P n e x → ∃ y, mkD P e x = f y) (h : typed P (n + 1) t l) :
    ∃ m : List α, mkD P t l = .imm s (m.map f) 4 := by
  rw [typed, hu] at h
  obtain ⟨xs, rfl, hxs⟩ := h
  obtain ⟨m, hm⟩ := list_of (f := f) (g := mkD P e) xs fun x hx' => hx x (hxs x hx')
  exact ⟨m, by rw [mkD_one ha, hm, hc]⟩
theorem typed_one {e : TypeId} (hu : P.underlying t = some (.slice e)) (h : typed P (n + 1) t l) : ∃ d, l = [d] := by
  rw [typed, hu] at h
  obtain ⟨xs, rfl, _⟩ := h
  exact ⟨_, rfl⟩
theorem typed_struct {fs : Array Field} (hu : P.underlying t = some (.struct fs)) (h : typed P (n + 1) t l) : typedL (typed P n) (fs.toList.map (·.type)) l := by
  rw [typed, hu] at h; exact h
theorem typedL_cons {p : TypeId → List D → Prop} {ts : List TypeId} (h : typedL p (t :: ts) l) : ∃ l1 l2, l = l1 ++ l2 ∧ p t l1 ∧ typedL p ts l2 := h
theorem typedL_nil {p : TypeId → List D → Prop} (h : typedL p [] l) : l = [] := h
theorem typedAll_cons {ts : List TypeId} (h : typedAll P n (t :: ts) l) : ∃ c r, l = mkD P t c :: r ∧ typed P n t c ∧ typedAll P n ts r := h
theorem typedAll_nil (h : typedAll P n [] l) : l = [] := h
end
end Go.Tm
end

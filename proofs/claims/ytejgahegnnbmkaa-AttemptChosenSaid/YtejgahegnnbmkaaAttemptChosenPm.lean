/- Plain facts about sorted insertion by a key. -/
import Derived.WideKeyArgs
import Derived.ChangeSame
import Derived.ChangeArms
import Derived.OpenShut
import Derived.Carry
import Derived.Test.YtejgahegnnbmkaaAttemptChosenPl
import Derived.Test.YtejgahegnnbmkaaAttemptChosenPk
import Derived.Test.YtejgahegnnbmkaaAttemptChosenPf
import Derived.Test.YtejgahegnnbmkaaAttemptChosenPg
import Derived.Test.YtejgahegnnbmkaaAttemptChosenPh
import Derived.Test.YtejgahegnnbmkaaAttemptChosenPi
import Derived.Test.YtejgahegnnbmkaaAttemptChosenPe
section
namespace Go.Proofs
open Go.Tm
set_option linter.unusedSimpArgs false

section
variable {α : Type} (key : α → Int)

/-- put in ahead of the first that is not less -/
def insK (p : α) : List α → List α
  | [] => [p]
  | y :: l => if key y < key p then y :: insK p l else p :: y :: l
/-- the place of the first that is not less -/
def plc (v : Int) : List α → Nat
  | [] => 0
  | y :: l => if key y < v then plc v l + 1 else 0

theorem plc_le (v : Int) : ∀ l : List α, plc key v l ≤ l.length := by
  intro l
  induction l with
  | nil => exact Nat.le_refl _
  | cons y l ih =>
    simp only [plc, List.length_cons]
    split <;> omega
theorem plc_test [Inhabited α] (v : Int) : ∀ (l : List α), (l.map key).Pairwise (· < ·) → ∀ x, x < l.length → (key (l.getD x default) ≥ v ↔ plc key v l ≤ x) := by
  intro l
  induction l with
  | nil => intro _ x hx; cases hx
  | cons y l ih =>
    intro h x hx
    simp only [List.map_cons, List.pairwise_cons] at h
    simp only [plc]
    cases x with
    | zero =>
      simp only [List.getD_cons_zero]
      by_cases hy : key y < v
      · rw [if_pos hy]
        omega
      · rw [if_neg hy]
        omega
    | succ x =>
      simp only [List.getD_cons_succ]
      simp only [List.length_cons] at hx
      by_cases hy : key y < v
      · rw [if_pos hy, ih h.2 x (by omega)]
        omega
      · rw [if_neg hy]
        have hm : l.getD x default ∈ l := by
          rw [List.getD_eq_getElem?_getD, List.getElem?_eq_getElem (by omega)]
          exact List.getElem_mem _
        have := h.1 _ (List.mem_map_of_mem hm)
        omega
theorem plc_has [Inhabited α] (v : Int) : ∀ (l : List α), (l.map key).Pairwise (· < ·) → ((plc key v l < l.length ∧ key (l.getD (plc key v l) default) = v) ↔ v ∈ l.map key) := by
  intro l
  induction l with
  | nil => intro _; simp [plc]
  | cons y l ih =>
    intro h
    simp only [List.map_cons, List.pairwise_cons] at h
    simp only [plc]
    by_cases hy : key y < v
    · rw [if_pos hy, List.getD_cons_succ, List.map_cons, List.mem_cons, ← ih h.2]
      simp only [List.length_cons]
      have : v ≠ key y := by omega
      simp only [this, false_or]
      omega
    · rw [if_neg hy, List.getD_cons_zero, List.map_cons, List.mem_cons]
      simp only [List.length_cons]
      constructor
      · intro hh; exact .inl hh.2.symm
      · rintro (hh | hh)
        · exact ⟨by omega, hh.symm⟩
        · have := h.1 _ hh
          omega
theorem ins_take (p : α) : ∀ l : List α, l.take (plc key (key p) l) ++ p :: l.drop (plc key (key p) l) = insK key p l := by
  intro l
  induction l with
  | nil => rfl
  | cons y l ih =>
    simp only [plc, insK]
    split
    · simp only [List.take_succ_cons, List.drop_succ_cons, List.cons_append, ih]
    · rfl
theorem ins_mem (p : α) (x : α) : ∀ l : List α, x ∈ insK key p l ↔ x = p ∨ x ∈ l := by
  intro l
  induction l with
  | nil => simp [insK]
  | cons y l ih =>
    simp only [insK]
    split
    · simp only [List.mem_cons, ih]
      constructor
      · rintro (h | h | h) <;> simp [h]
      · rintro (h | h | h) <;> simp [h]
    · simp only [List.mem_cons]
theorem ins_len (p : α) : ∀ l : List α, (insK key p l).length = l.length + 1 := by
  intro l
  induction l with
  | nil => rfl
  | cons y l ih =>
    simp only [insK]
    split <;> simp [ih]
theorem ins_rise (m : List Int) (p : α) (hp : key p ∈ m) : ∀ (l : List α) (k : Option Int), (match k with | none => True | some k => k < key p) → key p ∉ l.map key → riseS m k (l.map key) = true → riseS m k ((insK key p l).map key) = true := by
  intro l
  induction l with
  | nil =>
    intro k hk _ _
    cases k with
    | none => simp [insK, riseS, hp]
    | some k =>
      have : k < key p := hk
      simp [insK, riseS, hp, this]
  | cons y l ih =>
    intro k hk hn h
    simp only [List.map_cons, List.mem_cons, not_or] at hn
    simp only [List.map_cons, riseS, Bool.and_eq_true] at h
    simp only [insK]
    by_cases hy : key y < key p
    · rw [if_pos hy]
      simp only [List.map_cons, riseS, Bool.and_eq_true]
      exact ⟨h.1, ih (some (key y)) hy hn.2 h.2⟩
    · rw [if_neg hy]
      have hlt : key p < key y := by omega
      simp only [List.map_cons, riseS, Bool.and_eq_true]
      refine ⟨⟨?_, by simpa using hp⟩, ⟨⟨by simpa using hlt, h.1.2⟩, h.2⟩⟩
      cases k with
      | none => rfl
      | some k => simpa using hk
end

theorem rise_lt {m : List Int} : ∀ (l : List Int) (k : Int), riseS m (some k) l = true → ∀ x ∈ l, k < x := by
  intro l
  induction l with
  | nil => intro _ _ x hx; cases hx
  | cons y l ih =>
    intro k h x hx
    simp only [riseS, Bool.and_eq_true, decide_eq_true_eq] at h
    rcases List.mem_cons.1 hx with rfl | hx
    · exact h.1.1
    · have := ih y h.2 x hx; omega
theorem rise_pw {m : List Int} : ∀ (l : List Int) (k : Option Int), riseS m k l = true → l.Pairwise (· < ·) := by
  intro l
  induction l with
  | nil => intro _ _; exact .nil
  | cons y l ih =>
    intro k h
    simp only [riseS, Bool.and_eq_true] at h
    exact .cons (rise_lt l y h.2) (ih _ h.2)
/-- the search for a key's place -/
theorem searchK {α : Type} [Inhabited α] (key : α → Int) (l : List α) (v : Int) (f : Int → Option Bool) (hl : l.length < 1000000) (hs : (l.map key).Pairwise (· < ·)) (hf : ∀ x : Nat, x < l.length → f (x : Int) = some (decide (key (l.getD x default) ≥ v))) : m_sort_Search (l.length : Int) f = some (plc key v l : Int) :=
  search_eq f _ _ hl (plc_le key v l) fun x hx => by rw [hf x hx, decide_eq_decide.2 (plc_test key v l hs x hx)]
theorem searchInts_eq (l : List Int) (v : Int) (hl : l.length < 1000000) (hs : l.Pairwise (· < ·)) : m_sort_SearchInts l v = some (plc (fun x => x) v l : Int) := by
  rw [m_sort_SearchInts, searchK (fun x => x) l v _ hl (by simpa using hs)]
  · rfl
  · intro x hx
    rw [m_sort_SearchInts_1, if_pos (by omega)]
    rfl

/-! ### majorities -/
theorem most_iff {m l l' : List Int} (h : ∀ x ∈ m, x ∈ l ↔ x ∈ l') : mostS m l = mostS m l' := by
  unfold mostS
  have : m.filter (hasI l) = m.filter (hasI l') := List.filter_congr fun x hx => by
    unfold hasI
    rw [Bool.eq_iff_iff, List.any_eq_true, List.any_eq_true]
    simp only [beq_iff_eq, exists_eq_right]
    exact h x hx
  rw [this]
theorem filter_le {α : Type} (p q : α → Bool) (h : ∀ x, p x = true → q x = true) : ∀ l : List α, (l.filter p).length ≤ (l.filter q).length := by
  intro l
  induction l with
  | nil => exact Nat.le_refl _
  | cons y l ih =>
    simp only [List.filter_cons]
    cases hp : p y with
    | true => rw [h y hp]; simp only [if_true, List.length_cons]; omega
    | false => cases hq : q y <;> simp <;> omega
theorem most_mono {m l l' : List Int} (h : ∀ x, x ∈ l → x ∈ l') (hm : mostS m l = true) : mostS m l' = true := by
  unfold mostS at hm ⊢
  simp only [decide_eq_true_eq] at hm ⊢
  have := filter_le (hasI l) (hasI l') (fun x hx => by
    unfold hasI at hx ⊢
    simp only [List.any_eq_true, beq_iff_eq, exists_eq_right] at hx ⊢
    exact h x hx) m
  omega
end Go.Proofs
end
section
/- What attempt.Promised and attempt.Accepted do to valid attempts. -/


namespace Go.Proofs
open Go.Tm
set_option linter.unusedSimpArgs false

abbrev insI := insK (fun x : Int => x)
theorem insI_keys (v x : Int) (l : List Int) : x ∈ insI v l ↔ x = v ∨ x ∈ l := ins_mem _ v x l

theorem Valid.kept {a : TAttempt} (h : Valid a) (h0 : a.Phase ≠ 0) : Kept a := by
  unfold Valid at h
  rw [if_neg h0] at h
  exact h.2
theorem twin_eq (a : TAttempt) (h1 : a.Members.length < 1000000) (h2 : a.Promises.length < 1000000) (h3 : a.Accepted.length < 1000000) : m_attempt_Twin a = some a := by
  rw [m_attempt_Twin, m_slices_Clone_int_int, m_slices_Clone_Promise_Promise, m_slices_Clone_int_int, if_pos h1, if_pos h2, if_pos h3]
  rfl
theorem Kept.lens {a : TAttempt} (h : Kept a) : a.Members.length ≤ 6 ∧ a.Promises.length ≤ 6 ∧ a.Accepted.length ≤ 6 := by
  have h1 := riseS_len h.members _ h.nodes
  rw [List.length_map] at h1
  exact ⟨h.members.1, h1, riseS_len h.members _ h.accepted⟩

/-! ### acceptances -/
def acceptedS (a : TAttempt) (n : Int) : TAttempt :=
  let l := if n ∈ a.Accepted then a.Accepted else insI n a.Accepted
  { a with Accepted := l, Phase := if mostS a.Members l = true then 3 else a.Phase }
def CanA (a : TAttempt) (b : Int) (n : Int) : Prop := Valid a ∧ 2 ≤ a.Phase ∧ b = a.Ballot ∧ n ∈ a.Members

theorem accepted_eq (a : TAttempt) (b n : Int) (hl : a.Promises.length < 1000000) : ∃ r, m_attempt_Accepted a b n = some r ∧ (r.2 = 0 ↔ CanA a b n) ∧ (r.2 = 0 → r.1 = acceptedS a n) := by
  rw [m_attempt_Accepted]
  obtain ⟨e, he, hv⟩ := check_eq a hl
  rw [he]
  simp only [Option.bind_some]
  by_cases hva : Valid a
  · have h0 := hv.2 hva
    subst h0
    rw [if_neg (by simp)]
    by_cases h1 : 2 ≤ a.Phase ∧ b = a.Ballot
    · obtain ⟨h1, h2⟩ := h1
      have h1' : ¬ a.Phase < 2 := by omega
      rw [if_pos (by simp [h1', h2]), has_eq]
      simp only [Option.bind_some]
      by_cases h3 : n ∈ a.Members
      · rw [if_neg (by simp [h1', h2, h3])]
        have hk := hva.kept (by omega)
        obtain ⟨l1, l2, l3⟩ := hk.lens
        rw [twin_eq a (by omega) (by omega) (by omega)]
        simp only [Option.bind_some]
        have hpw : a.Accepted.Pairwise (· < ·) := rise_pw _ _ hk.accepted
        rw [searchInts_eq a.Accepted n (by omega) hpw]
        simp only [Option.bind_some, Int.toNat_natCast]
        have hle := plc_le (fun x : Int => x) n a.Accepted
        have hhas := plc_has (fun x : Int => x) n a.Accepted (by simpa using hpw)
        have htake := ins_take (fun x : Int => x) n a.Accepted
        have hlen := ins_len (fun x : Int => x) n a.Accepted
        have hrise := ins_rise (fun x : Int => x) a.Members n h3 a.Accepted none trivial
        simp only [List.map_id'] at hhas hrise
        generalize plc (fun x : Int => x) n a.Accepted = K at *
        rw [if_pos (by omega)]
        have hcan : CanA a b n := ⟨hva, h1, h2, h3⟩
        have hfin : ∀ l : List Int, l.length ≤ 6 → (if n ∈ a.Accepted then a.Accepted else insI n a.Accepted) = l → ∃ r, (Option.bind (α := Int) (Option.bind (m_attempt_most a.Members l) fun v5 => if v5 = true then some 3 else some a.Phase) fun n1 => some ((⟨n1, a.Ballot, a.Members, a.Wish, a.Value, a.Promises, l⟩ : TAttempt), (0 : Int))) = some r ∧ (r.2 = 0 ↔ CanA a b n) ∧ (r.2 = 0 → r.1 = acceptedS a n) := by
          intro l hl hh
          rw [amost_eq _ _ hk.members (by omega)]
          unfold acceptedS
          rw [hh]
          simp only [Option.bind_some]
          cases hm : mostS a.Members l with
          | true => exact ⟨_, rfl, by simp [hcan], fun _ => rfl⟩
          | false => exact ⟨_, rfl, by simp [hcan], fun _ => rfl⟩
        by_cases hin : n ∈ a.Accepted
        · have := hhas.2 hin
          rw [if_neg (by
            rintro (hh | hh)
            · omega
            · exact hh this.2)]
          simp only [Option.bind_some]
          exact hfin _ l3 (if_pos hin)
        · rw [if_pos (by
            by_cases hK : K = a.Accepted.length
            · exact .inl (by omega)
            · exact .inr fun hh => hin (hhas.1 ⟨by omega, hh⟩)), if_pos (by omega), if_pos (by omega), htake]
          simp only [Option.bind_some]
          have hr := hrise hin hk.accepted
          exact hfin _ (riseS_len hk.members _ hr) (if_neg hin)
      · rw [if_pos (by simp [h3])]
        exact ⟨_, rfl, by simp [CanA, h3], by simp⟩
    · have h2 : (a.Phase < 2) ∨ (¬ (b = a.Ballot)) := by
        by_cases h : a.Phase < 2
        · exact .inl h
        · exact .inr fun hh => h1 ⟨by omega, hh⟩
      rw [if_neg (fun h => h h2)]
      simp only [Option.bind_some]
      rw [if_pos (.inl h2)]
      exact ⟨_, rfl, ⟨fun h => by simp at h, fun h => absurd ⟨h.2.1, h.2.2.1⟩ h1⟩, by simp⟩
  · have h0 : e ≠ 0 := fun h => hva (hv.1 h)
    rw [if_pos h0]
    exact ⟨_, rfl, ⟨fun h => absurd h h0, fun h => absurd h.1 hva⟩, fun h => absurd h h0⟩

theorem acc_mem (a : TAttempt) (n x : Int) : x ∈ (acceptedS a n).Accepted ↔ x = n ∨ x ∈ a.Accepted := by
  unfold acceptedS
  dsimp only
  split
  · rename_i h
    constructor
    · exact .inr
    · rintro (rfl | h2)
      · exact h
      · exact h2
  · exact insI_keys n x _
theorem accepted_kept {a : TAttempt} {n : Int} (h : CanA a a.Ballot n) : Valid (acceptedS a n) ∧ a.Phase ≤ (acceptedS a n).Phase := by
  obtain ⟨hv, h1, _, h3⟩ := h
  have hk := hv.kept (by omega)
  have hph : a.Phase = 2 ∨ a.Phase = 3 := by
    unfold Valid at hv
    rw [if_neg (by omega)] at hv
    rcases hv.1 with h | h | h
    · omega
    · exact .inl h
    · exact .inr h
  have hval : a.Value = bestS a.Promises a.Wish 0 := by
    rcases hk.value with h | h
    · omega
    · exact h
  have hmem := acc_mem a n
  have hrise : riseS a.Members none (acceptedS a n).Accepted = true := by
    unfold acceptedS
    dsimp only
    split
    · exact hk.accepted
    · rename_i hin
      have := ins_rise (fun x : Int => x) a.Members n h3 a.Accepted none trivial (by simpa using hin)
      simp only [List.map_id'] at this
      exact this hk.accepted
  have hmono : a.Phase = 3 → mostS a.Members (acceptedS a n).Accepted = true := by
    intro h
    refine most_mono (l := a.Accepted) (fun x hx => (hmem x).2 (.inr hx)) ?_
    rw [hk.chosen, h]; rfl
  have hphase : (acceptedS a n).Phase = if mostS a.Members (acceptedS a n).Accepted = true then 3 else a.Phase := rfl
  have hp2 : (acceptedS a n).Phase = 2 ∨ (acceptedS a n).Phase = 3 := by
    rw [hphase]
    split
    · exact .inr rfl
    · exact hph
  have hmost : mostS a.Members (acceptedS a n).Accepted = ((acceptedS a n).Phase == 3) := by
    rw [hphase]
    cases hm : mostS a.Members (acceptedS a n).Accepted with
    | true => simp
    | false =>
      have : a.Phase ≠ 3 := fun h => by rw [hmono h] at hm; cases hm
      simp [this]
  refine ⟨?_, ?_⟩
  · unfold Valid
    rw [if_neg (by omega)]
    refine ⟨.inr hp2, ⟨hk.ballot, hk.members, hk.wish, hk.nodes, hrise, hk.may, ?_, hmost, .inr hval⟩⟩
    show mostS a.Members (a.Promises.map TPromise.Node) = _
    rw [hk.most]
    rw [decide_eq_decide]
    omega
  · rw [hphase]
    split <;> omega
end Go.Proofs
end
section
/- Models of functions, printed by gw.py. -/








namespace Go.Proofs
open Go.Tm

end Go.Proofs
end
section
/- Models of functions, printed by gw.py. -/








namespace Go.Proofs
open Go.Tm

end Go.Proofs
end
section
/- The law AttemptTells, in plain Lean. -/





namespace Go.Proofs
open Go.Tm
set_option linter.unusedSimpArgs false

theorem alive_eq : m_towncrierlaw08_alive = some true := by decide +kernel

theorem getD_drop {α : Type} [Inhabited α] (l : List α) (k : Nat) (h : k < l.length) : l.drop k = l.getD k default :: l.drop (k + 1) := by
  rw [List.drop_eq_getElem_cons h]
  simp [List.getD, List.getElem?_eq_getElem h]
end Go.Proofs
end
section
/- The laws AttemptChosen and AttemptOrder, in plain Lean. -/

namespace Go.Proofs
open Go.Tm
set_option linter.unusedSimpArgs false

theorem sameI_loop (b : List Int) : ∀ (l : List Int) (n : Nat), n + l.length = b.length → m_towncrierlaw08_same_loop1 b l n = some (if l = b.drop n then .inr () else .inl false) := by
  intro l
  induction l with
  | nil => intro n h; simp [m_towncrierlaw08_same_loop1]; simp at h; omega
  | cons y l ih =>
    intro n h
    simp only [List.length_cons] at h
    have hn : n < b.length := by omega
    have hd := getD_drop b n hn
    rw [m_towncrierlaw08_same_loop1, if_pos hn]
    generalize b.getD n default = z at hd
    rw [hd]
    by_cases hy : y = z
    · rw [if_neg (by simpa using hy), ih (n + 1) (by omega)]
      simp only [hy, List.cons.injEq, true_and]
    · rw [if_pos hy]
      simp only [hy, List.cons.injEq, false_and, if_false]
theorem sameI_eq (a b : List Int) : m_towncrierlaw08_same a b = some (decide (a = b)) := by
  rw [m_towncrierlaw08_same]
  by_cases h : (a.length : Int) = (b.length : Int)
  · rw [if_neg (by simpa using h), sameI_loop b a 0 (by omega), List.drop_zero]
    by_cases hab : a = b <;> simp [hab]
  · rw [if_pos h]
    have : a ≠ b := fun hh => h (by rw [hh])
    simp [this]

theorem sameR_intsLoop (b : List Int) : ∀ (l : List Int) (n : Nat), n + l.length = b.length → m_towncrierref01_SameInts_loop1 b l n = some (if l = b.drop n then .inr () else .inl false) := by
  intro l
  induction l with
  | nil => intro n h; simp [m_towncrierref01_SameInts_loop1]; simp at h; omega
  | cons y l ih =>
    intro n h
    simp only [List.length_cons] at h
    have hn : n < b.length := by omega
    have hd := getD_drop b n hn
    rw [m_towncrierref01_SameInts_loop1, if_pos hn]
    generalize b.getD n default = z at hd
    rw [hd]
    by_cases hy : y = z
    · rw [if_neg (by simpa using hy), ih (n + 1) (by omega)]
      simp only [hy, List.cons.injEq, true_and]
    · rw [if_pos hy]
      simp only [hy, List.cons.injEq, false_and, if_false]
theorem sameInts_eq (a b : List Int) : m_towncrierref01_SameInts a b = some (decide (a = b)) := by
  rw [m_towncrierref01_SameInts]
  by_cases h : (a.length : Int) = (b.length : Int)
  · rw [if_neg (by simpa using h), sameR_intsLoop b a 0 (by omega), List.drop_zero]
    by_cases hab : a = b <;> simp [hab]
  · rw [if_pos h]
    have : a ≠ b := fun hh => h (by rw [hh])
    simp [this]
theorem sameR_loop (b : TAttempt) : ∀ (l : List TPromise) (n : Nat), n + l.length = b.Promises.length → m_towncrierref08_Same_loop1 b l n = some (if l = b.Promises.drop n then .inr () else .inl false) := by
  intro l
  induction l with
  | nil => intro n h; simp [m_towncrierref08_Same_loop1]; simp at h; omega
  | cons y l ih =>
    intro n h
    simp only [List.length_cons] at h
    have hn : n < b.Promises.length := by omega
    have hd := getD_drop b.Promises n hn
    rw [m_towncrierref08_Same_loop1, if_pos hn]
    generalize b.Promises.getD n default = z at hd
    rw [hd]
    have e : (y.Node = z.Node ∧ y.Ballot = z.Ballot ∧ y.Value = z.Value) ↔ y = z := by cases y; cases z; simp
    by_cases hy : y = z
    · rw [if_neg (by simpa using e.2 hy), ih (n + 1) (by omega)]
      simp only [hy, List.cons.injEq, true_and]
    · rw [if_pos (fun hh => hy (e.1 hh))]
      simp only [hy, List.cons.injEq, false_and, if_false]
theorem sameR_eq (a b : TAttempt) : m_towncrierref08_Same a b = some (decide (a = b)) := by
  have e : a = b ↔ a.Phase = b.Phase ∧ a.Ballot = b.Ballot ∧ a.Members = b.Members ∧ a.Wish = b.Wish ∧ a.Value = b.Value ∧ a.Promises = b.Promises ∧ a.Accepted = b.Accepted := by
    cases a; cases b; simp
  rw [show decide (a = b) = decide (a.Phase = b.Phase ∧ a.Ballot = b.Ballot ∧ a.Members = b.Members ∧ a.Wish = b.Wish ∧ a.Value = b.Value ∧ a.Promises = b.Promises ∧ a.Accepted = b.Accepted) from decide_eq_decide.2 e, m_towncrierref08_Same]
  simp only [sameInts_eq]
  by_cases h1 : a.Phase = b.Phase
  · by_cases h2 : a.Ballot = b.Ballot
    · by_cases h3 : a.Members = b.Members
      · by_cases h4 : a.Wish = b.Wish
        · by_cases h5 : a.Value = b.Value
          · by_cases h6 : (a.Promises.length : Int) = (b.Promises.length : Int)
            · by_cases h7 : a.Accepted = b.Accepted
              · have hs := sameR_loop b a.Promises 0 (by omega)
                rw [List.drop_zero] at hs
                simp only [h1, h2, h3, h4, h5, h6, h7, not_true_eq_false, or_self, if_true, not_false_eq_true, decide_true, Option.bind_some, if_false, hs, true_and, and_true]
                by_cases h8 : a.Promises = b.Promises <;> simp [h8]
              · simp [h1, h2, h3, h4, h5, h6, h7]
            · have : ¬ a.Promises = b.Promises := fun h => h6 (by rw [h])
              simp [h1, h2, h3, h4, h5, h6, this]
          · simp [h1, h2, h3, h4, h5]
        · simp [h1, h2, h3, h4]
      · simp [h1, h2, h3]
    · simp [h1, h2]
  · simp [h1]

theorem great_loop : ∀ (l : List TPromise) (n3 : Nat) (n2 : Int), ∃ r, m_towncrierref08_Great_loop1 l n3 n2 = some r := by
  intro l
  induction l with
  | nil => intro n3 n2; exact ⟨_, rfl⟩
  | cons y l ih =>
    intro n3 n2
    rw [m_towncrierref08_Great_loop1]
    split
    · exact ih _ _
    · exact ⟨_, rfl⟩
theorem great_eq (a : TAttempt) : ∃ r, m_towncrierref08_Great a = some r ∧ (r = false → a.Members.length ≤ 100 ∧ a.Promises.length ≤ 50 ∧ a.Accepted.length ≤ 100) := by
  rw [m_towncrierref08_Great]
  obtain ⟨n, hn⟩ := great_loop a.Promises 0 (wr .i64 ((a.Wish.length : Int) + (a.Value.length : Int)))
  rw [hn]
  refine ⟨_, rfl, fun h => ?_⟩
  simp only [Bool.or_eq_false_iff, decide_eq_false_iff_not] at h
  omega

/-! ### AttemptChosen -/
theorem Valid.lens {a : TAttempt} (h : Valid a) : a.Members.length ≤ 6 ∧ a.Promises.length ≤ 6 ∧ a.Accepted.length ≤ 6 := by
  by_cases h0 : a.Phase = 0
  · unfold Valid at h
    rw [if_pos h0] at h
    rw [h]
    simp
  · exact (h.kept h0).lens
structure InvC (was a : TAttempt) (all : List Int) : Prop where
  valid : Valid a
  old : was.Phase < 2 → a = was
  ge : 2 ≤ was.Phase → 2 ≤ a.Phase
  mem : ∀ x, x ∈ all ↔ x ∈ a.Accepted
theorem accepted_keeps (a : TAttempt) (n : Int) : (acceptedS a n).Ballot = a.Ballot ∧ (acceptedS a n).Value = a.Value ∧ (acceptedS a n).Wish = a.Wish ∧ (acceptedS a n).Members = a.Members ∧ (acceptedS a n).Promises = a.Promises := ⟨rfl, rfl, rfl, rfl, rfl⟩
theorem chosen_loop (was : TAttempt) (b : Int) : ∀ (l : List Int) (a : TAttempt) (all : List Int), InvC was a all → all.length + l.length < 1000 →
    ∃ a' all', InvC was a' all' ∧ all'.length < 1000 ∧ m_towncrierlaw08_AttemptChosen_loop1 b l a.Phase a.Ballot a.Members a.Wish a.Value a.Promises a.Accepted all = some (.inr (a'.Phase, a'.Ballot, a'.Members, a'.Wish, a'.Value, a'.Promises, a'.Accepted, all')) := by
  intro l
  induction l with
  | nil => intro a all h hl; exact ⟨a, all, h, by simpa using hl, rfl⟩
  | cons y l ih =>
    intro a all h hl
    simp only [List.length_cons] at hl
    rw [m_towncrierlaw08_AttemptChosen_loop1]
    have hln := h.valid.lens
    obtain ⟨r, hr, h1, h2⟩ := accepted_eq a b y (by omega)
    rw [show (⟨a.Phase, a.Ballot, a.Members, a.Wish, a.Value, a.Promises, a.Accepted⟩ : TAttempt) = a from rfl, hr]
    simp only [Option.bind_some]
    by_cases h0 : r.2 = 0
    · rw [if_neg (by simpa using h0), if_pos (by simp; omega), h2 h0]
      have hc := h1.1 h0
      have hba : b = a.Ballot := hc.2.2.1
      rw [hba] at hc
      obtain ⟨hv, hph⟩ := accepted_kept hc
      have hvl := hv.lens
      obtain ⟨e, he, hee⟩ := check_eq (acceptedS a y) (by omega)
      have he0 := hee.2 hv
      subst he0
      rw [he]
      obtain ⟨k1, k2, k3, k4, k5⟩ := accepted_keeps a y
      have hnp : ¬ (acceptedS a y).Phase < a.Phase := by omega
      simp only [Option.bind_some, k1, k2, k3, k4, k5, sameI_eq, hnp, not_true_eq_false, or_self, not_false_eq_true, if_true, decide_true, if_false]
      refine ih (acceptedS a y) (all ++ [y]) ⟨hv, fun hh => ?_, fun _ => by have := hc.2.1; omega, fun x => ?_⟩ (by simp; omega)
      · have := h.old hh
        have := hc.2.1
        subst a
        omega
      · rw [acc_mem, List.mem_append, List.mem_singleton, h.mem]
        constructor
        · rintro (h | h)
          · exact .inr h
          · exact .inl h
        · rintro (h | h)
          · exact .inr h
          · exact .inl h
    · rw [if_pos h0]
      exact ih a all h (by omega)

theorem chosen_law (a : TAttempt) (b : Int) (l : List Int) : m_towncrierlaw08_AttemptChosen a b l = some true := by
  rw [m_towncrierlaw08_AttemptChosen, alive_eq]
  simp only [Option.bind_some, not_true_eq_false, if_false]
  obtain ⟨g, hg, hg0⟩ := great_eq a
  rw [hg]
  simp only [Option.bind_some]
  by_cases h0 : (g = true) ∨ ((l.length : Int) > 50)
  · rw [if_neg (fun h => h h0)]
    simp only [Option.bind_some]
    rw [if_pos (.inl h0)]
  · rw [if_pos h0]
    have hgf : g = false := by cases g; rfl; exact absurd (.inl rfl) h0
    have hll : l.length ≤ 50 := by
      have : ¬ ((l.length : Int) > 50) := fun h => h0 (.inr h)
      omega
    obtain ⟨g1, g2, g3⟩ := hg0 hgf
    obtain ⟨e, he, hee⟩ := check_eq a (by omega)
    rw [he]
    simp only [Option.bind_some]
    by_cases he0 : e = 0
    · subst he0
      have hv := hee.1 rfl
      rw [if_neg (by rintro (h | h); exact h0 h; exact h rfl), if_pos (by omega)]
      obtain ⟨a', all', hi, hal, hlo⟩ := chosen_loop a b l a a.Accepted ⟨hv, fun _ => rfl, fun h => h, fun x => Iff.rfl⟩ (by omega)
      rw [hlo]
      simp only [Option.bind_some]
      by_cases hp : a.Phase < 2
      · rw [if_pos hp, hi.old hp]
        simp only [if_true]
        rw [show (⟨a.Phase, a.Ballot, a.Members, a.Wish, a.Value, a.Promises, a.Accepted⟩ : TAttempt) = a from rfl, sameR_eq]
        simp
      · rw [if_neg hp]
        have hge := hi.ge (by omega)
        have hk := hi.valid.kept (by omega)
        rw [most_eq _ _ hk.members (by omega)]
        simp only [Option.bind_some]
        rw [most_iff (l' := a'.Accepted) (fun x _ => hi.mem x), hk.chosen]
        simp
    · rw [if_pos (.inr he0)]

end Go.Proofs
end
section
/- A law's row, off its contract: what is handed in, read. -/






namespace Go.Tm
open Go.RowKit Go.WideShapes Go.ChangeShapes

/-! ## What is handed in, read -/
def aggT (P : Program) (t : TypeId) : Bool := match P.underlying t with
  | some (.struct _) => true
  | _ => false

def mkD (P : Program) (t : TypeId) (l : List D) : D := bif aggT P t then .agg l else l.headD .undef

def fieldsIn (P : Program) (chk : TypeId → Bool) : Nat → List Field → Nat → Bool
  | off, [], tot => Nat.beq off tot
  | off, f :: fs, tot => Nat.beq f.offset off && chk f.type && fieldsIn P chk (off + P.cellsOf f.type) fs tot

/-- plain data: bools, numbers, strings, lists and structs of such -/
def dataT (P : Program) : Nat → TypeId → Bool
  | 0, _ => false
  | n + 1, t => match P.underlying t with
    | some .bool => true
    | some (.int _) => true
    | some .string => true
    | some (.slice e) => dataT P n e && Nat.blt 0 (P.cellsOf e) && (aggT P e || Nat.beq (P.cellsOf e) 1)
    | some (.struct fs) => fieldsIn P (dataT P n) 0 fs.toList (P.cellsOf t)
    | _ => false

def typedL (p : TypeId → List D → Prop) : List TypeId → List D → Prop
  | [], l => l = []
  | t :: ts, l => ∃ l1 l2, l = l1 ++ l2 ∧ p t l1 ∧ typedL p ts l2

/-- cells that are such data -/
def typed (P : Program) : Nat → TypeId → List D → Prop
  | 0, _, _ => False
  | n + 1, t, l => match P.underlying t with
    | some .bool => ∃ b, l = [.bool b]
    | some (.int k) => ∃ m, l = [.int k m]
    | some .string => ∃ s, l = [.str s]
    | some (.slice e) => ∃ xs : List (List D), l = [.imm (P.cellsOf e) (xs.map (mkD P e)) 4] ∧ ∀ x ∈ xs, typed P n e x
    | some (.struct fs) => typedL (typed P n) (fs.toList.map (·.type)) l
    | _ => False

theorem reps_append' {C : Cx} : ∀ {l1 l2 : List D} {v1 v2 : List Value}, reps C l1 v1 → reps C l2 v2 → reps C (l1 ++ l2) (v1 ++ v2)
  | [], l2, v1, v2, h1, h2 => by simp only [reps] at h1; subst h1; simpa using h2
  | d :: ds, l2, v1, v2, h1, h2 => by
    simp only [reps] at h1
    obtain ⟨v, vs, rfl, hd, h1⟩ := h1
    simp only [List.cons_append, reps]
    exact ⟨v, vs ++ v2, rfl, hd, reps_append' h1 h2⟩

theorem elems_of {C : Cx} {b s : Nat} {p : List D → Prop} {f : List D → D} : ∀ (n o : Nat), (∀ i, i < n → ∃ l v, p l ∧ rep C (f l) v ∧ v.cells.size = s ∧ v.cells.toList.all (·.oneCell') = true ∧ C.w.rangeAt b (o + i * s) v.cells.toList) →
    ∃ xs : List (List D), xs.length = n ∧ elems C (xs.map f) b o s ∧ ∀ x ∈ xs, p x
  | 0, o, _ => ⟨[], rfl, by simp only [List.map_nil, elems], by simp⟩
  | n + 1, o, h => by
    obtain ⟨l, v, h1, h2, h3, h4, h5⟩ := h 0 (by omega)
    obtain ⟨xs, g1, g2, g3⟩ := elems_of n (o + s) (fun i hi => by
      obtain ⟨l, v, h1, h2, h3, h4, h5⟩ := h (i + 1) (by omega)
      exact ⟨l, v, h1, h2, h3, h4, by rwa [show o + (i + 1) * s = o + s + i * s by rw [Nat.add_mul]; omega] at h5⟩)
    refine ⟨l :: xs, by simp [g1], ?_, by simpa using ⟨h1, g3⟩⟩
    simp only [List.map_cons, elems]
    exact ⟨⟨v, h2, h3, h4, by simpa using h5⟩, g2⟩

theorem fieldsIn_le {P : Program} {chk : TypeId → Bool} : ∀ (fs : List Field) (off tot : Nat), fieldsIn P chk off fs tot = true → off ≤ tot
  | [], off, tot, h => Nat.le_of_eq (Nat.eq_of_beq_eq_true h)
  | f :: fs, off, tot, h => by
    simp only [fieldsIn, Bool.and_eq_true] at h
    have := fieldsIn_le fs _ _ h.2
    omega

section
variable {H : Type} {enc : TypeId × Value → H} {P : Program} {w : World} {sp : Nat → Bool}

theorem trod_reps : ∀ (n fuel : Nat) (t : TypeId) (cs : List Value) (x : DataW H × List MemPlace) (C : Cx), C.w = w → (∀ b, ¬ C.M b) → (∀ b, C.Z b) → dataT P n t = true → DataW.trod enc P w 0 sp true fuel t cs = some x →
    ∃ l, reps C l cs ∧ typed P n t l ∧ cs.all (·.oneCell') = true
  | 0, _, _, _, _, _, _, _, _, h, _ => by simp [dataT] at h
  | n + 1, fuel, t, cs, x, C, hw, hM, hlo, hd, h => by
    unfold dataT at hd
    split at hd
    · rename_i ht
      simp only [typed, ht]
      obtain ⟨b, rfl, _⟩ := DataW.trod_bool ht h
      exact ⟨[.bool b], by simp only [reps, rep]; exact ⟨_, _, rfl, rfl, rfl⟩, ⟨b, rfl⟩, rfl⟩
    · rename_i k ht
      simp only [typed, ht]
      obtain ⟨m, rfl, _, hwf⟩ := DataW.trod_int ht h
      simp only [Lit.wf, Bool.and_eq_true, decide_eq_true_eq] at hwf
      exact ⟨[.int k m], by simp only [reps, rep]; exact ⟨_, _, rfl, ⟨rfl, hwf⟩, rfl⟩, ⟨m, rfl⟩, rfl⟩
    · rename_i ht
      simp only [typed, ht]
      obtain ⟨s, rfl, _, hs⟩ := DataW.trod_string ht h
      refine ⟨[.str s.data.toList], ?_, ⟨_, rfl⟩, rfl⟩
      simp only [reps, rep]
      refine ⟨_, _, rfl, ⟨by rw [Array.toArray_toList], ?_⟩, rfl⟩
      have h1 : s.data.toList.length = s.size := by rw [Array.length_toList]; rfl
      have h2 : s.size ≤ 9223372036854775807 := hs
      rw [h1]; omega
    · rename_i e ht
      simp only [typed, ht]
      simp only [Bool.and_eq_true, Bool.or_eq_true] at hd
      obtain ⟨⟨hde, hpos⟩, hone⟩ := hd
      have hpos : 0 < P.cellsOf e := Nat.le_of_ble_eq_true hpos
      rcases DataW.trod_slice ht h with ⟨rfl, _⟩ | ⟨a, len, cap, els, rest, m, _, rfl, _, hb, hl, hc, hlen, hel, _⟩
      · refine ⟨[.imm (P.cellsOf e) (([] : List (List D)).map (mkD P e)) 4], ?_, ⟨[], rfl, fun _ h => by cases h⟩, rfl⟩
        simp only [reps, rep, List.map_nil, List.length_nil]
        exact ⟨_, _, rfl, ⟨none, 0, rfl, by simp, by simp, by simp, by simp, by simp, by simp, by simp, .inl trivial⟩, rfl⟩
      · have hc : cap ≤ 9223372036854775807 := hc
        have key : ∀ i, i < len → ∃ l v, typed P n e l ∧ rep (C.at C.Z) (mkD P e l) v ∧ v.cells.size = P.cellsOf e ∧ v.cells.toList.all (·.oneCell') = true ∧ (i = 0 → a.spot = none) ∧ a.block < w.heap.size ∧ w.rangeAt a.block (a.off + i * P.cellsOf e) v.cells.toList := by
          intro i hi
          have hi' := hel i hi
          have hsome : els[i]? = some els[i] := List.getElem?_eq_getElem (by omega)
          rw [hsome, Option.bind_eq_some_iff] at hi'
          obtain ⟨cs', hcs, htr⟩ := hi'
          obtain ⟨_, hclen, hcell⟩ := World.cells?_some hcs
          obtain ⟨l, g1, g2, g3⟩ := trod_reps n m e cs' _ (C.at C.Z) (by simpa [Cx.at] using hw) (by simpa [Cx.at] using hM) (by simpa [Cx.at] using hlo) hde htr
          have h0 := hcell 0 hpos
          have hc0 : cs'[0]? = some cs'[0] := List.getElem?_eq_getElem (by omega)
          rw [hc0] at h0
          have hadd : ∀ j, ((a.add (i * P.cellsOf e)).add j).block = a.block := by intro j; unfold Addr.add; split <;> split <;> rfl
          have hblk : a.block < w.heap.size ∧ ((a.add (i * P.cellsOf e)).add 0).spot = none := by
            unfold World.cell? at h0
            rw [hadd] at h0
            split at h0
            · rename_i c T fz hh
              have := (Array.getElem?_eq_some_iff.1 hh).1
              split at h0
              · cases h0
              · rename_i hs; exact ⟨this, by simpa using hs⟩
            · cases h0
          have hspot0 : (a.add (i * P.cellsOf e)).spot = none := by simpa [Addr.add] using hblk.2
          have hae : ∀ j, j < P.cellsOf e → (a.add (i * P.cellsOf e)).add j = ⟨a.block, a.off + i * P.cellsOf e + j, none⟩ := by
            intro j _
            unfold Addr.add at hspot0 ⊢
            split at hspot0
            · rename_i hz
              simp only [hz, if_true, Nat.add_zero]
              split
              · rename_i hj; subst hj; cases a; simp_all
              · rfl
            · rename_i hz
              simp only [hz, if_false]
              split
              · rename_i hj; subst hj; rfl
              · rfl
          have hrange : w.rangeAt a.block (a.off + i * P.cellsOf e) cs' := by
            intro j v hj
            have hjl := (List.getElem?_eq_some_iff.1 hj).1
            have := hcell j (by omega)
            rw [hae j (by omega), hj] at this
            exact this
          cases hag : aggT P e with
          | true =>
            refine ⟨l, .agg cs'.toArray, g2, ?_, by simp [Value.cells, hclen], by simpa [Value.cells] using g3, ?_, hblk.1, by simpa [Value.cells] using hrange⟩
            · simp only [mkD, hag, cond_true, rep]
              exact ⟨cs', rfl, g1⟩
            · rintro rfl; simpa [Addr.add] using hspot0
          | false =>
            rw [hag] at hone
            have h1 : P.cellsOf e = 1 := by simpa using hone
            rw [h1] at hclen
            obtain ⟨v, rfl⟩ := List.length_eq_one_iff.1 hclen
            obtain ⟨d, rfl⟩ : ∃ d, l = [d] := List.length_eq_one_iff.1 ((reps_length _ _ g1).symm.trans rfl)
            simp only [reps] at g1
            obtain ⟨v', vs', hv, hd, rfl⟩ := g1
            obtain rfl : v = v' := (List.cons.inj hv).1
            have hcv : v.cells = #[v] := by
              simp only [List.all_cons, List.all_nil, Bool.and_true] at g3
              cases v <;> first | rfl | simp [Value.oneCell'] at g3
            refine ⟨[d], v, g2, by simpa [mkD, hag] using hd, by simp [hcv, h1], by simpa [hcv] using g3, ?_, hblk.1, by simpa [hcv] using hrange⟩
            rintro rfl; simpa [Addr.add] using hspot0
        obtain ⟨xs, g1, g2, g3⟩ := elems_of (C := C.at C.Z) (b := a.block) (s := P.cellsOf e) (p := typed P n e) (f := mkD P e) len a.off (fun i hi => by
          obtain ⟨l, v, h1, h2, h3, h4, _, _, h5⟩ := key i hi
          exact ⟨l, v, h1, h2, h3, h4, by subst hw; exact h5⟩)
        refine ⟨[.imm (P.cellsOf e) (xs.map (mkD P e)) 4], ?_, ⟨xs, rfl, g3⟩, rfl⟩
        simp only [reps, rep, List.length_map, g1]
        refine ⟨_, _, rfl, ⟨some a, cap, rfl, hl, by omega, by simp, by simp, by simp, by simp, by simp, ?_⟩, rfl⟩
        rcases Nat.eq_zero_or_pos len with h0 | h0
        · left; subst h0; have := List.length_eq_zero_iff.1 g1; simp [this]
        · right
          obtain ⟨_, _, _, _, _, _, k1, k2, _⟩ := key 0 h0
          intro Z hZ
          have hZ : C.Z = Z := by simpa [Cx.zone] using hZ
          subst hZ
          exact ⟨a, rfl, k1 rfl, hM _, hlo _, by rw [hw]; exact k2, g2⟩
    · rename_i fs ht
      simp only [typed, ht]
      obtain ⟨xs, m, _, _, hcl, hxl, hf⟩ := DataW.trod_struct ht h
      have key : ∀ (gs : List Field) (k : Nat), (∀ i f, gs[i]? = some f → fs[k + i]? = some f) → ∀ off, fieldsIn P (dataT P n) off gs (P.cellsOf t) = true → off ≤ cs.length → 
          ∃ l, reps C l (cs.drop off) ∧ typedL (typed P n) (gs.map (·.type)) l ∧ (cs.drop off).all (·.oneCell') = true := by
        intro gs
        induction gs with
        | nil =>
          intro k _ off ho _
          simp only [fieldsIn] at ho
          have ho := Nat.eq_of_beq_eq_true ho
          have : cs.drop off = [] := by rw [ho, ← hcl]; simp
          rw [this]
          exact ⟨[], by simp only [reps], rfl, rfl⟩
        | cons f gs ih =>
          intro k hk off ho hle
          simp only [fieldsIn, Bool.and_eq_true] at ho
          obtain ⟨⟨h1, h2⟩, h3⟩ := ho
          have h1 := Nat.eq_of_beq_eq_true h1
          have hfk := hf k f (by simpa using hk 0 f rfl)
          have hkl : k < xs.length := by
            have := hk 0 f rfl
            rw [hxl]
            exact (Array.getElem?_eq_some_iff.1 (by simpa using this)).1
          rw [List.getElem?_eq_getElem hkl, h1] at hfk
          obtain ⟨l1, g1, g2, g3⟩ := trod_reps n m f.type _ _ C hw hM hlo h2 hfk
          have hl1 : ((cs.drop off).take (P.cellsOf f.type)).length = P.cellsOf f.type := by
            have := fieldsIn_le _ _ _ h3
            simp
            omega
          obtain ⟨l2, k1, k2, k3⟩ := ih (k + 1) (fun i f' hi => by have := hk (i + 1) f' (by simpa using hi); rwa [show k + (i + 1) = k + 1 + i by omega] at this) (off + P.cellsOf f.type) h3 (by
            simp at hl1; omega)
          have e : cs.drop off = (cs.drop off).take (P.cellsOf f.type) ++ cs.drop (off + P.cellsOf f.type) := by
            rw [← List.drop_drop, List.take_append_drop]
          refine ⟨l1 ++ l2, by rw [e]; exact reps_append' g1 k1, ⟨l1, l2, rfl, g2, k2⟩, by rw [e, List.all_append, g3, k3]; rfl⟩
      simpa using key fs.toList 0 (fun i f hi => by simpa using hi) 0 hd (Nat.zero_le _)
    · cases hd

/-- the arguments, read -/
theorem trod_rep {r : Reach} {b0 n : Nat} {t : TypeId} {v : Value} {d : DataW H} {ps : List MemPlace} {fr : Nat} (hd : dataT P n t = true) (hval : Value.okWide P w r b0 t v) (h : DataW.Trod enc P w 0 sp true t v d ps) :
    ∃ l, typed P n t l ∧ rep (cx0 w fr) (mkD P t l) v := by
  obtain ⟨fuel, h⟩ := h
  obtain ⟨l, h1, h2, h3⟩ := trod_reps n fuel t _ _ (cx0 w fr) rfl (fun _ h => h) (fun _ => trivial) hd h
  refine ⟨l, h2, ?_⟩
  unfold mkD aggT
  cases n with
  | zero => simp [dataT] at hd
  | succ n =>
    unfold dataT at hd
    unfold Value.okWide at hval
    split at hd
    case h_5 fs ht =>
      rw [ht] at hval ⊢
      obtain ⟨cs, rfl, _⟩ := hval
      simp only [cond_true, rep]
      exact ⟨cs.toList, by simp, by simpa [Value.cells] using h1⟩
    case h_6 => cases hd
    all_goals
      rename_i ht
      rw [ht] at hval ⊢
      simp only [cond_false]
      have hcv : v.cells = #[v] := by
        cases v with
        | agg cs => simp [Cell.okWide, Cell.ok, ht] at hval
        | _ => rfl
      rw [hcv] at h1
      have hl : ∃ d, l = [d] := List.length_eq_one_iff.1 ((reps_length _ _ h1).symm.trans rfl)
      obtain ⟨d, rfl⟩ := hl
      simp only [reps] at h1
      obtain ⟨v', vs', hv, hd', _⟩ := h1
      obtain rfl : v = v' := by simpa using (List.cons.inj hv).1
      exact hd'

def typedAll (P : Program) (n : Nat) : List TypeId → List D → Prop
  | [], l => l = []
  | t :: ts, l => ∃ c r, l = mkD P t c :: r ∧ typed P n t c ∧ typedAll P n ts r

theorem trodAll_reps {r : Reach} {b0 n fr : Nat} : ∀ {ts : List TypeId} {vs : List Value} {ds : List (DataW H)} {ps : List MemPlace}, ts.all (dataT P n) = true → (∀ (j : Nat) t v, ts[j]? = some t → vs[j]? = some v → Value.okWide P w r b0 t v) →
    DataW.TrodAll enc P w 0 sp true ts vs ds ps → ∃ l, typedAll P n ts l ∧ reps (cx0 w fr) l vs
  | [], [], [], _, _, _, _ => ⟨[], rfl, by simp only [reps]⟩
  | t :: ts, v :: vs, d :: ds, ps, hd, hval, h => by
    obtain ⟨p, q, h1, h2, _⟩ := h
    simp only [List.all_cons, Bool.and_eq_true] at hd
    obtain ⟨c, g1, g2⟩ := trod_rep (fr := fr) hd.1 (hval 0 t v rfl rfl) h1
    obtain ⟨l, k1, k2⟩ := trodAll_reps hd.2 (fun j t v h h' => hval (j + 1) t v h h') h2
    exact ⟨_ :: l, ⟨c, l, rfl, g1, k1⟩, by simp only [reps]; exact ⟨_, _, rfl, g2, k2⟩⟩
  | [], _ :: _, _, _, _, _, h => h.elim
  | [], [], _ :: _, _, _, _, h => h.elim
  | _ :: _, [], _, _, _, _, h => h.elim
  | _ :: _, _ :: _, [], _, _, _, h => h.elim

/-- data that lie below stay -/
theorem trodAll_stays (hl : laidOutB P = true) {W W' : World} (hB : Below W.heap.size W W') {sp' : Nat → Bool} : ∀ {ts : List TypeId} {vs : List Value} {ds : List (DataW H)} {ps : List MemPlace}, (ts.all fun t => P.readableRec t && Nat.blt t P.types.size) = true →
    DataW.TrodAll enc P W 0 (fun _ => true) true ts vs ds ps → (∀ p ∈ ps, p.block < W.heap.size ∧ sp' p.block = true) → DataW.TrodAll enc P W' 0 sp' true ts vs ds ps
  | [], [], [], _, _, h, _ => h
  | t :: ts, v :: vs, d :: ds, ps, hr, h, hp => by
    obtain ⟨p, q, h1, h2, rfl⟩ := h
    simp only [List.all_cons, Bool.and_eq_true] at hr
    refine ⟨p, q, WideElems.Trod_stays hl hr.1.1 (Nat.le_of_ble_eq_true hr.1.2) h1 (fun x hx => hB.same (hp x (by simp [hx])).1) (fun x hx => (hp x (by simp [hx])).2), ?_, rfl⟩
    exact trodAll_stays hl hB hr.2 h2 fun x hx => hp x (by simp [hx])
  | [], _ :: _, _, _, _, h, _ => h.elim
  | [], [], _ :: _, _, _, h, _ => h.elim
  | _ :: _, [], _, _, _, h, _ => h.elim
  | _ :: _, _ :: _, [], _, _, h, _ => h.elim

/-- a law's row, off its contract -/
theorem law_contract {K : FuncId} {f : Func} {s : ChangeSpec} {apart fresh : Bool} {n : Nat} {tb : TypeId} (hl : laidOutB P = true) (hr : (f.params.toList.all fun t => P.readableRec t && Nat.blt t P.types.size) = true)
    (hd : f.params.toList.all (dataT P n) = true) (hvars : s.vars = []) (hres : f.resultTypes = #[tb]) (hb : P.underlying tb = some .bool)
    (hfn : ∀ ds : List (DataW H), ds.length = f.params.size → s.fn H ds = { results := [.lit (.bool true)], args := ds })
    (hK : ∀ l, typedAll P n f.params.toList l → CallP P K l (.bool true)) {W : World} {base : Nat} {args : Array Value} {ds gs : List (DataW H)} {before : List MemPlace}
    (hval : ∀ (j : Nat) t v, f.params[j]? = some t → args[j]? = some v → Value.okWide P W .any base t v) (hW : DataW.Whole enc P f.params.toList s.vars apart W args.toList ds gs before) :
    Calls P K args W fun e W' => ∃ v, e = .returned v ∧ s.post enc P f apart fresh false false W args v W' := by
  have hW' := hW
  obtain ⟨p, q, hA, hV, rfl, hfz, hnd⟩ := hW
  rw [hvars] at hV
  have hlen : ds.length = f.params.size := by
    have : ∀ {ts : List TypeId} {vs : List Value} {ds : List (DataW H)} {ps : List MemPlace}, DataW.TrodAll enc P W 0 (fun _ => true) true ts vs ds ps → ds.length = ts.length := by
      intro ts
      induction ts with
      | nil => intro vs ds ps h; cases vs <;> cases ds <;> first | rfl | exact h.elim
      | cons t ts ih => intro vs ds ps h; cases vs <;> cases ds <;> first | (obtain ⟨_, _, _, h2, _⟩ := h; simp [ih h2]) | exact h.elim
    simpa using this hA
  have hgs : gs = [] ∧ q = [] := by
    cases gs with
    | nil => exact ⟨rfl, hV⟩
    | cons g gs => exact hV.elim
  obtain ⟨rfl, rfl⟩ := hgs
  obtain ⟨l, h1, h2⟩ := trodAll_reps (fr := W.heap.size) hd (fun j t v h h' => hval j t v (by simpa using h) (by simpa using h')) hA
  refine ((hK l h1).2 W _ h2).mono fun e W' ⟨v, he, hk, _, hv⟩ => ⟨v, he, ?_⟩
  simp only [rep] at hv
  subst hv
  have hB := hk.below
  have hlt := hW'.lt
  have hf := hfn ds hlen
  refine ⟨ds, [], p ++ [], [], p, [], hW', ?_, ?_, ?_, ?_, fun h => by cases h⟩
  · rw [List.append_nil, hf, hres]
    exact ⟨[], [], ⟨1, by simp [DataW.trod, Value.cells, hb]⟩, rfl, rfl⟩
  · rw [List.append_nil, hf]
    exact trodAll_stays hl hB hr hA fun x hx => ⟨hlt x (by simp [hx]), by simpa using hlt x (by simp [hx])⟩
  · rw [List.append_nil, hf, hvars]
    rfl
  · exact hB.frame _
end

/-! ## What typed data are, type by type -/
theorem list_of {α : Type} {f : α → D} {g : List D → D} : ∀ (xs : List (List D)), (∀ x ∈ xs, ∃ y, g x = f y) → ∃ l : List α, xs.map g = l.map f
  | [], _ => ⟨[], rfl⟩
  | x :: xs, h => by
    obtain ⟨y, hy⟩ := h x (by simp)
    obtain ⟨l, hl⟩ := list_of xs fun x hx => h x (by simp [hx])
    exact ⟨y :: l, by simp only [List.map_cons, hy, hl]⟩

section
variable {P : Program} {n : Nat} {t : TypeId} {l : List D}
theorem mkD_one {d : D} (ha : aggT P t = false) : mkD P t [d] = d := by simp only [mkD, ha, cond_false, List.headD_cons]
theorem mkD_agg (ha : aggT P t = true) : mkD P t l = .agg l := by simp only [mkD, ha, cond_true]
theorem typed_int {k : IntKind} (hu : P.underlying t = some (.int k)) (h : typed P (n + 1) t l) : ∃ m, l = [.int k m] := by
  rw [typed, hu] at h; exact h
theorem typed_str (hu : P.underlying t = some .string) (h : typed P (n + 1) t l) : ∃ s, l = [.str s] := by
  rw [typed, hu] at h; exact h
theorem typed_list {α : Type} (f : α → D) {e : TypeId} {s : Nat} (hu : P.underlying t = some (.slice e)) (ha : aggT P t = false) (hc : P.cellsOf e = s) (hx : ∀ x, typed P n e x → ∃ y, mkD P e x = f y) (h : typed P (n + 1) t l) :
    ∃ m : List α, mkD P t l = .imm s (m.map f) 4 := by
  rw [typed, hu] at h
  obtain ⟨xs, rfl, hxs⟩ := h
  obtain ⟨m, hm⟩ := list_of (f := f) (g := mkD P e) xs fun x hx' => hx x (hxs x hx')
  exact ⟨m, by rw [mkD_one ha, hm, hc]⟩
theorem typed_one {e : TypeId} (hu : P.underlying t = some (.slice e)) (h : typed P (n + 1) t l) : ∃ d, l = [d] := by
  rw [typed, hu] at h
  obtain ⟨xs, rfl, _⟩ := h
  exact ⟨_, rfl⟩
theorem typed_struct {fs : Array Field} (hu : P.underlying t = some (.struct fs)) (h : typed P (n + 1) t l) : typedL (typed P n) (fs.toList.map (·.type)) l := by
  rw [typed, hu] at h; exact h
theorem typedL_cons {p : TypeId → List D → Prop} {ts : List TypeId} (h : typedL p (t :: ts) l) : ∃ l1 l2, l = l1 ++ l2 ∧ p t l1 ∧ typedL p ts l2 := h
theorem typedL_nil {p : TypeId → List D → Prop} (h : typedL p [] l) : l = [] := h
theorem typedAll_cons {ts : List TypeId} (h : typedAll P n (t :: ts) l) : ∃ c r, l = mkD P t c :: r ∧ typed P n t c ∧ typedAll P n ts r := h
theorem typedAll_nil (h : typedAll P n [] l) : l = [] := h
end
end Go.Tm
end

/- Plain facts about sorted insertion by a key. -/
import Derived.WideKeyArgs
import Derived.ChangeSame
import Derived.ChangeArms
import Derived.OpenShut
import Derived.Carry
import Derived.Test.YtnhnalcgbpebiaaAttemptTakesPk
import Derived.Test.YtnhnalcgbpebiaaAttemptTakesPe
section
namespace Go.Proofs
open Go.Tm
set_option linter.unusedSimpArgs false

section
variable {α : Type} (key : α → Int)

/-- put in ahead of the first that is not less -/
def insK (p : α) : List α → List α
  | [] => [p]
  | y :: l => if key y < key p then y :: insK p l else p :: y :: l
/-- the place of the first that is not less -/
def plc (v : Int) : List α → Nat
  | [] => 0
  | y :: l => if key y < v then plc v l + 1 else 0

theorem plc_le (v : Int) : ∀ l : List α, plc key v l ≤ l.length := by
  intro l
  induction l with
  | nil => exact Nat.le_refl _
  | cons y l ih =>
    simp only [plc, List.length_cons]
    split <;> omega
theorem plc_test [Inhabited α] (v : Int) : ∀ (l : List α), (l.map key).Pairwise (· < ·) → ∀ x, x < l.length → (key (l.getD x default) ≥ v ↔ plc key v l ≤ x) := by
  intro l
  induction l with
  | nil => intro _ x hx; cases hx
  | cons y l ih =>
    intro h x hx
    simp only [List.map_cons, List.pairwise_cons] at h
    simp only [plc]
    cases x with
    | zero =>
      simp only [List.getD_cons_zero]
      by_cases hy : key y < v
      · rw [if_pos hy]
        omega
      · rw [if_neg hy]
        omega
    | succ x =>
      simp only [List.getD_cons_succ]
      simp only [List.length_cons] at hx
      by_cases hy : key y < v
      · rw [if_pos hy, ih h.2 x (by omega)]
        omega
      · rw [if_neg hy]
        have hm : l.getD x default ∈ l := by
          rw [List.getD_eq_getElem?_getD, List.getElem?_eq_getElem (by omega)]
          exact List.getElem_mem _
        have := h.1 _ (List.mem_map_of_mem hm)
        omega
theorem plc_has [Inhabited α] (v : Int) : ∀ (l : List α), (l.map key).Pairwise (· < ·) → ((plc key v l < l.length ∧ key (l.getD (plc key v l) default) = v) ↔ v ∈ l.map key) := by
  intro l
  induction l with
  | nil => intro _; simp [plc]
  | cons y l ih =>
    intro h
    simp only [List.map_cons, List.pairwise_cons] at h
    simp only [plc]
    by_cases hy : key y < v
    · rw [if_pos hy, List.getD_cons_succ, List.map_cons, List.mem_cons, ← ih h.2]
      simp only [List.length_cons]
      have : v ≠ key y := by omega
      simp only [this, false_or]
      omega
    · rw [if_neg hy, List.getD_cons_zero, List.map_cons, List.mem_cons]
      simp only [List.length_cons]
      constructor
      · intro hh; exact .inl hh.2.symm
      · rintro (hh | hh)
        · exact ⟨by omega, hh.symm⟩
        · have := h.1 _ hh
          omega
theorem ins_take (p : α) : ∀ l : List α, l.take (plc key (key p) l) ++ p :: l.drop (plc key (key p) l) = insK key p l := by
  intro l
  induction l with
  | nil => rfl
  | cons y l ih =>
    simp only [plc, insK]
    split
    · simp only [List.take_succ_cons, List.drop_succ_cons, List.cons_append, ih]
    · rfl
theorem ins_mem (p : α) (x : α) : ∀ l : List α, x ∈ insK key p l ↔ x = p ∨ x ∈ l := by
  intro l
  induction l with
  | nil => simp [insK]
  | cons y l ih =>
    simp only [insK]
    split
    · simp only [List.mem_cons, ih]
      constructor
      · rintro (h | h | h) <;> simp [h]
      · rintro (h | h | h) <;> simp [h]
    · simp only [List.mem_cons]
theorem ins_len (p : α) : ∀ l : List α, (insK key p l).length = l.length + 1 := by
  intro l
  induction l with
  | nil => rfl
  | cons y l ih =>
    simp only [insK]
    split <;> simp [ih]
theorem ins_keys (p : α) (v : Int) (l : List α) : v ∈ (insK key p l).map key ↔ v = key p ∨ v ∈ l.map key := by
  simp only [List.mem_map, ins_mem]
  constructor
  · rintro ⟨x, rfl | hx, rfl⟩
    · exact .inl rfl
    · exact .inr ⟨x, hx, rfl⟩
  · rintro (rfl | ⟨x, hx, rfl⟩)
    · exact ⟨p, .inl rfl, rfl⟩
    · exact ⟨x, .inr hx, rfl⟩
theorem ins_rise (m : List Int) (p : α) (hp : key p ∈ m) : ∀ (l : List α) (k : Option Int), (match k with | none => True | some k => k < key p) → key p ∉ l.map key → riseS m k (l.map key) = true → riseS m k ((insK key p l).map key) = true := by
  intro l
  induction l with
  | nil =>
    intro k hk _ _
    cases k with
    | none => simp [insK, riseS, hp]
    | some k =>
      have : k < key p := hk
      simp [insK, riseS, hp, this]
  | cons y l ih =>
    intro k hk hn h
    simp only [List.map_cons, List.mem_cons, not_or] at hn
    simp only [List.map_cons, riseS, Bool.and_eq_true] at h
    simp only [insK]
    by_cases hy : key y < key p
    · rw [if_pos hy]
      simp only [List.map_cons, riseS, Bool.and_eq_true]
      exact ⟨h.1, ih (some (key y)) hy hn.2 h.2⟩
    · rw [if_neg hy]
      have hlt : key p < key y := by omega
      simp only [List.map_cons, riseS, Bool.and_eq_true]
      refine ⟨⟨?_, by simpa using hp⟩, ⟨⟨by simpa using hlt, h.1.2⟩, h.2⟩⟩
      cases k with
      | none => rfl
      | some k => simpa using hk
end

theorem rise_lt {m : List Int} : ∀ (l : List Int) (k : Int), riseS m (some k) l = true → ∀ x ∈ l, k < x := by
  intro l
  induction l with
  | nil => intro _ _ x hx; cases hx
  | cons y l ih =>
    intro k h x hx
    simp only [riseS, Bool.and_eq_true, decide_eq_true_eq] at h
    rcases List.mem_cons.1 hx with rfl | hx
    · exact h.1.1
    · have := ih y h.2 x hx; omega
theorem rise_pw {m : List Int} : ∀ (l : List Int) (k : Option Int), riseS m k l = true → l.Pairwise (· < ·) := by
  intro l
  induction l with
  | nil => intro _ _; exact .nil
  | cons y l ih =>
    intro k h
    simp only [riseS, Bool.and_eq_true] at h
    exact .cons (rise_lt l y h.2) (ih _ h.2)
/-- the search for a key's place -/
theorem searchK {α : Type} [Inhabited α] (key : α → Int) (l : List α) (v : Int) (f : Int → Option Bool) (hl : l.length < 1000000) (hs : (l.map key).Pairwise (· < ·)) (hf : ∀ x : Nat, x < l.length → f (x : Int) = some (decide (key (l.getD x default) ≥ v))) : m_sort_Search (l.length : Int) f = some (plc key v l : Int) :=
  search_eq f _ _ hl (plc_le key v l) fun x hx => by rw [hf x hx, decide_eq_decide.2 (plc_test key v l hs x hx)]
theorem searchInts_eq (l : List Int) (v : Int) (hl : l.length < 1000000) (hs : l.Pairwise (· < ·)) : m_sort_SearchInts l v = some (plc (fun x => x) v l : Int) := by
  rw [m_sort_SearchInts, searchK (fun x => x) l v _ hl (by simpa using hs)]
  · rfl
  · intro x hx
    rw [m_sort_SearchInts_1, if_pos (by omega)]
    rfl

theorem most_nil (m : List Int) : mostS m [] = false := by
  unfold mostS
  have : m.filter (hasI []) = [] := by
    rw [List.filter_eq_nil_iff]
    intro x _; simp [hasI]
  rw [this]
  simp
  omega
end Go.Proofs
end
section
/- What attempt.Promised and attempt.Accepted do to valid attempts. -/


namespace Go.Proofs
open Go.Tm
set_option linter.unusedSimpArgs false

abbrev insN := insK TPromise.Node
abbrev insI := insK (fun x : Int => x)
/-- the attempt, as its promises are -/
def withP (a : TAttempt) (l : List TPromise) : TAttempt :=
  if mostS a.Members (l.map TPromise.Node) = true then { a with Phase := 2, Value := bestS l a.Wish 0, Promises := l } else { a with Promises := l }
def promisedS (a : TAttempt) (p : TPromise) : TAttempt :=
  if p.Node ∈ a.Promises.map TPromise.Node then a else withP a (insN p a.Promises)
def CanP (a : TAttempt) (b : Int) (p : TPromise) : Prop := Valid a ∧ a.Phase = 1 ∧ b = a.Ballot ∧ p.Node ∈ a.Members ∧ MayS p b

theorem Valid.kept {a : TAttempt} (h : Valid a) (h0 : a.Phase ≠ 0) : Kept a := by
  unfold Valid at h
  rw [if_neg h0] at h
  exact h.2
theorem twin_eq (a : TAttempt) (h1 : a.Members.length < 1000000) (h2 : a.Promises.length < 1000000) (h3 : a.Accepted.length < 1000000) : m_attempt_Twin a = some a := by
  rw [m_attempt_Twin, m_slices_Clone_int_int, m_slices_Clone_Promise_Promise, m_slices_Clone_int_int, if_pos h1, if_pos h2, if_pos h3]
  rfl
theorem Kept.lens {a : TAttempt} (h : Kept a) : a.Members.length ≤ 6 ∧ a.Promises.length ≤ 6 ∧ a.Accepted.length ≤ 6 := by
  have h1 := riseS_len h.members _ h.nodes
  rw [List.length_map] at h1
  exact ⟨h.members.1, h1, riseS_len h.members _ h.accepted⟩

theorem promised1_eq (a : TAttempt) (p : TPromise) (x : Nat) (hx : x < a.Promises.length) : m_attempt_Promised_1 (x : Int) a p = some (decide ((a.Promises.getD x default).Node ≥ p.Node)) := by
  rw [m_attempt_Promised_1, if_pos (by omega)]
  rfl

theorem promised_eq (a : TAttempt) (b : Int) (p : TPromise) (hl : a.Promises.length < 1000000) : ∃ r, m_attempt_Promised a b p = some r ∧ (r.2 = 0 ↔ CanP a b p) ∧ (r.2 = 0 → r.1 = promisedS a p) := by
  rw [m_attempt_Promised]
  obtain ⟨e, he, hv⟩ := check_eq a hl
  rw [he]
  simp only [Option.bind_some]
  by_cases hva : Valid a
  · have h0 := hv.2 hva
    subst h0
    rw [if_neg (by simp)]
    by_cases h1 : a.Phase = 1 ∧ b = a.Ballot
    · obtain ⟨h1, h2⟩ := h1
      rw [if_pos (by simp [h1, h2]), has_eq]
      simp only [Option.bind_some]
      by_cases h3 : p.Node ∈ a.Members
      · rw [if_neg (by simp [h1, h2, h3]), may_eq]
        simp only [Option.bind_some]
        by_cases h4 : MayS p b
        · rw [if_neg (by simp [h4])]
          have hk := hva.kept (by omega)
          obtain ⟨l1, l2, l3⟩ := hk.lens
          rw [twin_eq a (by omega) (by omega) (by omega)]
          simp only [Option.bind_some]
          have hpw : (a.Promises.map TPromise.Node).Pairwise (· < ·) := rise_pw _ _ hk.nodes
          rw [searchK TPromise.Node a.Promises p.Node _ (by omega) hpw (fun x hx => promised1_eq a p x hx)]
          simp only [Option.bind_some, Int.toNat_natCast]
          have hle := plc_le TPromise.Node p.Node a.Promises
          have hhas := plc_has TPromise.Node p.Node a.Promises hpw
          have htake := ins_take TPromise.Node p a.Promises
          have hkeys := ins_keys TPromise.Node p
          have hlen := ins_len TPromise.Node p a.Promises
          have hrise := ins_rise TPromise.Node a.Members p h3 a.Promises none trivial
          generalize plc TPromise.Node p.Node a.Promises = K at *
          rw [if_pos (by omega)]
          have hcan : CanP a b p := ⟨hva, h1, h2, h3, h4⟩
          by_cases hin : p.Node ∈ a.Promises.map TPromise.Node
          · rw [if_pos (by have := hhas.2 hin; exact ⟨by omega, this.2⟩)]
            refine ⟨_, rfl, by simp [hcan], fun _ => ?_⟩
            unfold promisedS
            rw [if_pos hin]
          · rw [if_neg (fun hh => hin (hhas.1 ⟨by omega, hh.2⟩)), if_pos (by omega), if_pos (by omega), htake, nodes_eq _ (by omega)]
            have hr := hrise hin hk.nodes
            have hln := riseS_len hk.members _ hr
            simp only [Option.bind_some, amost_eq _ _ hk.members (Nat.le_trans hln (by omega)), best_eq]
            unfold promisedS
            rw [if_neg hin]
            unfold withP
            cases hm : mostS a.Members ((insK TPromise.Node p a.Promises).map TPromise.Node) with
            | true => exact ⟨_, rfl, by simp [hcan], fun _ => rfl⟩
            | false => exact ⟨_, rfl, by simp [hcan], fun _ => rfl⟩
        · rw [if_pos (by simp [h4])]
          exact ⟨_, rfl, by simp [CanP, h4], by simp⟩
      · rw [if_pos (by simp [h3])]
        exact ⟨_, rfl, by simp [CanP, h3], by simp⟩
    · have h2 : (¬ (a.Phase = 1)) ∨ (¬ (b = a.Ballot)) := by
        by_cases h : a.Phase = 1
        · exact .inr fun hh => h1 ⟨h, hh⟩
        · exact .inl h
      rw [if_neg (fun h => h h2)]
      simp only [Option.bind_some]
      rw [if_pos (.inl h2)]
      exact ⟨_, rfl, ⟨fun h => by simp at h, fun h => absurd ⟨h.2.1, h.2.2.1⟩ h1⟩, by simp⟩
  · have h0 : e ≠ 0 := fun h => hva (hv.1 h)
    rw [if_pos h0]
    exact ⟨_, rfl, ⟨fun h => absurd h h0, fun h => absurd h.1 hva⟩, fun h => absurd h h0⟩

/-! ### acceptances -/
def acceptedS (a : TAttempt) (n : Int) : TAttempt :=
  let l := if n ∈ a.Accepted then a.Accepted else insI n a.Accepted
  { a with Accepted := l, Phase := if mostS a.Members l = true then 3 else a.Phase }
def CanA (a : TAttempt) (b : Int) (n : Int) : Prop := Valid a ∧ 2 ≤ a.Phase ∧ b = a.Ballot ∧ n ∈ a.Members

theorem accepted_eq (a : TAttempt) (b n : Int) (hl : a.Promises.length < 1000000) : ∃ r, m_attempt_Accepted a b n = some r ∧ (r.2 = 0 ↔ CanA a b n) ∧ (r.2 = 0 → r.1 = acceptedS a n) := by
  rw [m_attempt_Accepted]
  obtain ⟨e, he, hv⟩ := check_eq a hl
  rw [he]
  simp only [Option.bind_some]
  by_cases hva : Valid a
  · have h0 := hv.2 hva
    subst h0
    rw [if_neg (by simp)]
    by_cases h1 : 2 ≤ a.Phase ∧ b = a.Ballot
    · obtain ⟨h1, h2⟩ := h1
      have h1' : ¬ a.Phase < 2 := by omega
      rw [if_pos (by simp [h1', h2]), has_eq]
      simp only [Option.bind_some]
      by_cases h3 : n ∈ a.Members
      · rw [if_neg (by simp [h1', h2, h3])]
        have hk := hva.kept (by omega)
        obtain ⟨l1, l2, l3⟩ := hk.lens
        rw [twin_eq a (by omega) (by omega) (by omega)]
        simp only [Option.bind_some]
        have hpw : a.Accepted.Pairwise (· < ·) := rise_pw _ _ hk.accepted
        rw [searchInts_eq a.Accepted n (by omega) hpw]
        simp only [Option.bind_some, Int.toNat_natCast]
        have hle := plc_le (fun x : Int => x) n a.Accepted
        have hhas := plc_has (fun x : Int => x) n a.Accepted (by simpa using hpw)
        have htake := ins_take (fun x : Int => x) n a.Accepted
        have hlen := ins_len (fun x : Int => x) n a.Accepted
        have hrise := ins_rise (fun x : Int => x) a.Members n h3 a.Accepted none trivial
        simp only [List.map_id'] at hhas hrise
        generalize plc (fun x : Int => x) n a.Accepted = K at *
        rw [if_pos (by omega)]
        have hcan : CanA a b n := ⟨hva, h1, h2, h3⟩
        have hfin : ∀ l : List Int, l.length ≤ 6 → (if n ∈ a.Accepted then a.Accepted else insI n a.Accepted) = l → ∃ r, (Option.bind (α := Int) (Option.bind (m_attempt_most a.Members l) fun v5 => if v5 = true then some 3 else some a.Phase) fun n1 => some ((⟨n1, a.Ballot, a.Members, a.Wish, a.Value, a.Promises, l⟩ : TAttempt), (0 : Int))) = some r ∧ (r.2 = 0 ↔ CanA a b n) ∧ (r.2 = 0 → r.1 = acceptedS a n) := by
          intro l hl hh
          rw [amost_eq _ _ hk.members (by omega)]
          unfold acceptedS
          rw [hh]
          simp only [Option.bind_some]
          cases hm : mostS a.Members l with
          | true => exact ⟨_, rfl, by simp [hcan], fun _ => rfl⟩
          | false => exact ⟨_, rfl, by simp [hcan], fun _ => rfl⟩
        by_cases hin : n ∈ a.Accepted
        · have := hhas.2 hin
          rw [if_neg (by
            rintro (hh | hh)
            · omega
            · exact hh this.2)]
          simp only [Option.bind_some]
          exact hfin _ l3 (if_pos hin)
        · rw [if_pos (by
            by_cases hK : K = a.Accepted.length
            · exact .inl (by omega)
            · exact .inr fun hh => hin (hhas.1 ⟨by omega, hh⟩)), if_pos (by omega), if_pos (by omega), htake]
          simp only [Option.bind_some]
          have hr := hrise hin hk.accepted
          exact hfin _ (riseS_len hk.members _ hr) (if_neg hin)
      · rw [if_pos (by simp [h3])]
        exact ⟨_, rfl, by simp [CanA, h3], by simp⟩
    · have h2 : (a.Phase < 2) ∨ (¬ (b = a.Ballot)) := by
        by_cases h : a.Phase < 2
        · exact .inl h
        · exact .inr fun hh => h1 ⟨by omega, hh⟩
      rw [if_neg (fun h => h h2)]
      simp only [Option.bind_some]
      rw [if_pos (.inl h2)]
      exact ⟨_, rfl, ⟨fun h => by simp at h, fun h => absurd ⟨h.2.1, h.2.2.1⟩ h1⟩, by simp⟩
  · have h0 : e ≠ 0 := fun h => hva (hv.1 h)
    rw [if_pos h0]
    exact ⟨_, rfl, ⟨fun h => absurd h h0, fun h => absurd h.1 hva⟩, fun h => absurd h h0⟩

end Go.Proofs
end
section
/- The law AttemptTakes in plain Lean: the references of chapter 08 answer as the program does. -/


namespace Go.Proofs
open Go.Tm
set_option linter.unusedSimpArgs false

theorem hasR_loop (v : Int) (l : List Int) : m_towncrierref06_Has_loop1 v l = some (if v ∈ l then .inl true else .inr ()) := by
  induction l with
  | nil => rfl
  | cons y l ih =>
    rw [m_towncrierref06_Has_loop1]
    by_cases h : y = v
    · rw [if_pos h, if_pos (by rw [h]; exact List.mem_cons_self)]
    · rw [if_neg h, ih]
      have : (v ∈ y :: l) ↔ v ∈ l := by simp [Ne.symm h]
      simp only [this]
theorem hasR_eq (l : List Int) (v : Int) : m_towncrierref06_Has l v = some (decide (v ∈ l)) := by
  rw [m_towncrierref06_Has, hasR_loop]
  by_cases h : v ∈ l <;> simp [h]
theorem hasI_iff (l : List Int) (v : Int) : hasI l v = decide (v ∈ l) := by
  rw [Bool.eq_iff_iff]; simp [hasI]
theorem within_loop (b : List Int) (l : List Int) : m_towncrierref06_Within_loop1 b l = some (if withinI l b = true then .inr () else .inl false) := by
  induction l with
  | nil => rfl
  | cons y l ih =>
    rw [m_towncrierref06_Within_loop1, hasR_eq]
    simp only [Option.bind_some]
    have e : withinI (y :: l) b = (decide (y ∈ b) && withinI l b) := by simp [withinI, hasI_iff]
    rw [e, ih]
    by_cases h : y ∈ b <;> simp [h]
theorem within_eq (l b : List Int) : m_towncrierref06_Within l b = some (withinI l b) := by
  rw [m_towncrierref06_Within, within_loop]
  by_cases h : withinI l b = true <;> simp [h]

theorem qmay_loop (l : List Int) : ∀ (pre : List Int) (k : Int), (pre = [] ∧ k = -1 ∨ 0 ≤ k ∧ pre.getLast? = some k) → m_towncrierref06_May_loop1 (pre ++ l) l pre.length = some (if risesP k l = true then .inr () else .inl false) := by
  induction l with
  | nil => intro pre k _; simp [m_towncrierref06_May_loop1, risesP]
  | cons y l ih =>
    intro pre k hk
    rw [m_towncrierref06_May_loop1]
    have hc : (((y < 0) ∨ (y ≥ 6)) ∨ (((pre.length : Int) > 0) ∧ (y ≤ ((pre ++ y :: l).getD (pre.length - 1) default)))) ↔ ¬ (k < y ∧ y < 6) := by
      rcases hk with ⟨rfl, rfl⟩ | ⟨h0, hl⟩
      · simp; omega
      · have hne : pre ≠ [] := by rintro rfl; simp at hl
        have hp : 0 < pre.length := List.length_pos_iff.2 hne
        have hg : (pre ++ y :: l).getD (pre.length - 1) default = k := by
          rw [List.getD_eq_getElem?_getD, List.getElem?_append_left (by omega), ← List.getLast?_eq_getElem?, hl]; rfl
        rw [hg]; omega
    by_cases h : k < y ∧ y < 6
    · rw [if_neg (fun hh => hc.1 hh h)]
      have e : risesP k (y :: l) = risesP y l := by simp [risesP, h.1, h.2]
      have := ih (pre ++ [y]) y (.inr ⟨by rcases hk with ⟨_, rfl⟩ | ⟨h0, _⟩ <;> omega, by simp⟩)
      rw [List.append_assoc, List.singleton_append, List.length_append, List.length_singleton] at this
      rw [e]; exact this
    · rw [if_pos (hc.2 h), if_neg]
      simp only [risesP, Bool.and_eq_true, decide_eq_true_eq]
      exact fun hh => h hh.1
theorem qmay_eq (l : List Int) : m_towncrierref06_May l = some (risesP (-1) l && decide (1 ≤ l.length) && decide (l.length ≤ 6)) := by
  rw [m_towncrierref06_May]
  have := qmay_loop l [] (-1) (.inl ⟨rfl, rfl⟩)
  rw [List.nil_append, List.length_nil] at this
  rw [this]
  by_cases h : risesP (-1) l = true
  · simp only [h, if_true, Option.bind_some, Bool.true_and]
    congr 1
    have e1 : decide ((l.length : Int) ≥ 1) = decide (1 ≤ l.length) := decide_eq_decide.2 (by omega)
    have e2 : decide ((l.length : Int) ≤ 6) = decide (l.length ≤ 6) := decide_eq_decide.2 (by omega)
    rw [e1, e2]
  · simp [h]

def R64 (x : Int) : Prop := -9223372036854775808 ≤ x ∧ x ≤ 9223372036854775807

theorem td8 (b : Int) : (0 ≤ b ∧ b.tdiv 8 = b / 8 ∧ b.tmod 8 = b % 8) ∨ (b < 0 ∧ b.tdiv 8 = -((-b) / 8) ∧ b.tmod 8 = -((-b) % 8)) := by
  rcases Int.lt_or_le b 0 with h | h
  · right
    obtain ⟨c, rfl⟩ : ∃ c, b = -c := ⟨-b, by omega⟩
    refine ⟨h, ?_, ?_⟩
    · rw [Int.neg_tdiv, Int.neg_neg, Int.tdiv_eq_ediv_of_nonneg (by omega)]
    · rw [Int.neg_tmod, Int.neg_neg, Int.tmod_eq_emod_of_nonneg (by omega)]
  · left
    exact ⟨h, Int.tdiv_eq_ediv_of_nonneg h, Int.tmod_eq_emod_of_nonneg h⟩
theorem bmay_eq (b : Int) (h : R64 b) : m_towncrierref05_May b = some (decide (BOk b)) := by
  rw [m_towncrierref05_May]
  congr 1
  have ht := td8 b
  have hw : wr .i64 (b.tdiv 8) = b.tdiv 8 := wr_eq _ _ (by show (-9223372036854775808 : Int) ≤ _; have := h.1; omega) (by show _ ≤ (9223372036854775807 : Int); have := h.2; omega)
  rw [Bool.eq_iff_iff]
  simp only [Bool.and_eq_true, decide_eq_true_eq]
  unfold BOk
  rw [hw]
  omega
theorem mayP_eq (p : TPromise) (b : Int) (h : R64 p.Ballot) : m_towncrierref08_MayPromise p b = some (decide (MayS p b)) := by
  rw [m_towncrierref08_MayPromise, bmay_eq _ h]
  unfold MayS
  by_cases h0 : p.Ballot = 0
  · simp only [h0, if_true]
    congr 1
    rw [Bool.eq_iff_iff, beq_iff_eq, decide_eq_true_eq]
  · simp only [h0, if_false, Option.bind_some]
    congr 1
    rw [Bool.eq_iff_iff]
    simp only [Bool.and_eq_true, decide_eq_true_eq]
    exact ⟨fun ⟨⟨x, y⟩, z⟩ => ⟨x, y, by omega⟩, fun ⟨x, y, z⟩ => ⟨⟨x, y⟩, by omega⟩⟩
theorem qmayS (l : List Int) : m_towncrierref06_May l = some (decide (QOk l)) := by
  rw [qmay_eq]
  congr 1
  rw [Bool.eq_iff_iff]
  simp only [Bool.and_eq_true, decide_eq_true_eq]
  unfold QOk
  have : 1 ≤ l.length ↔ l ≠ [] := by rw [← List.length_pos_iff]; omega
  rw [this]
  constructor
  · rintro ⟨⟨a, b⟩, c⟩; exact ⟨c, a, b⟩
  · rintro ⟨a, b, c⟩; exact ⟨⟨b, c⟩, a⟩
/-- strictly rising -/
def upS : Option Int → List Int → Bool
  | _, [] => true
  | k, y :: l => (match k with | none => true | some k => decide (k < y)) && upS (some y) l
theorem riseS_up (m : List Int) : ∀ (l : List Int) (k : Option Int), riseS m k l = (upS k l && withinI l m) := by
  intro l
  induction l with
  | nil => intro k; simp [riseS, upS, withinI]
  | cons y l ih =>
    intro k
    have e : withinI (y :: l) m = (decide (y ∈ m) && withinI l m) := by simp [withinI, hasI_iff]
    cases k with
    | none => simp only [riseS, upS, ih, e]; cases decide (y ∈ m) <;> cases upS (some y) l <;> cases withinI l m <;> rfl
    | some k => simp only [riseS, upS, ih, e]; cases decide (k < y) <;> cases decide (y ∈ m) <;> cases upS (some y) l <;> cases withinI l m <;> rfl
theorem risingR_loop (l : List Int) : ∀ (pre : List Int), m_towncrierref08_rising_loop1 (pre ++ l) l pre.length = some (if upS pre.getLast? l = true then .inr () else .inl false) := by
  induction l with
  | nil => intro pre; simp [m_towncrierref08_rising_loop1, upS]
  | cons y l ih =>
    intro pre
    rw [m_towncrierref08_rising_loop1]
    have hi := ih (pre ++ [y])
    rw [List.append_assoc, List.singleton_append, List.length_append, List.length_singleton, List.getLast?_concat] at hi
    rcases List.eq_nil_or_concat pre with rfl | ⟨q, k, rfl⟩
    · simp only [List.length_nil, List.getLast?_nil, upS, Bool.true_and]
      rw [if_neg (by simp)]
      simpa using hi
    · rw [List.concat_eq_append] at *
      have hg : ((q ++ [k]) ++ y :: l).getD ((q ++ [k]).length - 1) default = k := by simp
      rw [hg]
      simp only [List.getLast?_append, List.getLast?_singleton, Option.some_or, upS]
      by_cases hk : k < y
      · rw [if_neg (by simp; omega), hi]
        simp [hk]
      · rw [if_pos ⟨by simp <;> omega, by omega⟩]
        simp [hk]
theorem risingR_eq (l m : List Int) : m_towncrierref08_rising l m = some (riseS m none l) := by
  have h := risingR_loop l []
  rw [List.nil_append, List.length_nil, List.getLast?_nil] at h
  rw [m_towncrierref08_rising, h, riseS_up, within_eq]
  by_cases hu : upS none l = true
  · simp [hu]
  · simp [hu]
theorem nodesR_loop (l : List TPromise) : ∀ acc : List Int, acc.length + l.length < 1000000 → m_towncrierref08_nodes_loop1 l acc = some (acc ++ l.map TPromise.Node) := by
  induction l with
  | nil => intro acc _; simp [m_towncrierref08_nodes_loop1]
  | cons y l ih =>
    intro acc h
    simp only [List.length_cons] at h
    rw [m_towncrierref08_nodes_loop1, if_pos (by simp; omega), ih _ (by simp; omega)]
    simp
theorem nodesR_eq (l : List TPromise) (h : l.length < 1000000) : m_towncrierref08_nodes l = some (l.map TPromise.Node) := by
  rw [m_towncrierref08_nodes, nodesR_loop l [] (by simpa using h)]; rfl
theorem counts_loop (b : List Int) (l : List Int) : ∀ n : Nat, n + l.length < 1000000 → m_towncrierref06_Counts_loop1 b l (n : Int) = some ((n + (l.filter (hasI b)).length : Nat) : Int) := by
  induction l with
  | nil => intro n _; simp [m_towncrierref06_Counts_loop1]
  | cons y l ih =>
    intro n h
    simp only [List.length_cons] at h
    rw [m_towncrierref06_Counts_loop1, hasR_eq]
    have hw : wr .i64 ((n : Int) + 1) = ((n + 1 : Nat) : Int) := wr_eq _ _ (by show (-9223372036854775808 : Int) ≤ _; omega) (by show _ ≤ (9223372036854775807 : Int); omega)
    by_cases hy : y ∈ b
    · have hh : hasI b y = true := by rw [hasI_iff]; simpa using hy
      simp only [Option.bind_some, hy, decide_true, if_true, hw]
      rw [ih _ (by omega), List.filter_cons, if_pos hh]
      simp; omega
    · have hh : hasI b y = false := by rw [hasI_iff]; simpa using hy
      simp only [Option.bind_some, hy, decide_false, Bool.false_eq_true, if_false]
      rw [ih _ (by omega), List.filter_cons, if_neg (by simp [hh])]
theorem counts_eq (m l : List Int) (hm : m.length < 1000000) : m_towncrierref06_Counts m l = some (mostS m l) := by
  have h := counts_loop l m 0 (by omega)
  rw [m_towncrierref06_Counts]
  rw [show ((0 : Nat) : Int) = 0 from rfl, Nat.zero_add] at h
  rw [h]
  simp only [Option.bind_some]
  congr 1
  have hw : wr .i64 (wr .i64 ((m.length : Int).tdiv 2) + 1) = ((m.length / 2 + 1 : Nat) : Int) := by
    have e1 : (m.length : Int).tdiv 2 = ((m.length / 2 : Nat) : Int) := by
      rw [Int.tdiv_eq_ediv_of_nonneg (by omega)]; omega
    rw [e1, wr_eq .i64 ((m.length / 2 : Nat) : Int) (by show (-9223372036854775808 : Int) ≤ _; omega) (by show _ ≤ (9223372036854775807 : Int); omega)]
    exact (wr_eq _ _ (by show (-9223372036854775808 : Int) ≤ _; omega) (by show _ ≤ (9223372036854775807 : Int); omega)).trans (by omega)
  rw [hw]
  rfl
theorem bestR_loop (l : List TPromise) : ∀ s n, m_towncrierref08_Best_loop1 l n s = some (bestS l s n) := by
  induction l with
  | nil => intro s n; rfl
  | cons y l ih =>
    intro s n
    rw [m_towncrierref08_Best_loop1, bestS]
    split <;> simp only [Option.bind_some] <;> exact ih _ _
theorem bestR_eq (l : List TPromise) (w : List UInt8) : m_towncrierref08_Best l w = some (bestS l w 0) := by
  rw [m_towncrierref08_Best, bestR_loop]; rfl
end Go.Proofs
end
section
/- The reference's May and Same of attempts, and what is turned. -/

namespace Go.Proofs
open Go.Tm
set_option linter.unusedSimpArgs false

theorem mayR_loop (a : TAttempt) (l : List TPromise) (h : ∀ p ∈ l, R64 p.Ballot) : m_towncrierref08_May_loop1 a l = some (if (∀ p ∈ l, MayS p a.Ballot) then .inr () else .inl false) := by
  induction l with
  | nil => simp [m_towncrierref08_May_loop1]
  | cons y l ih =>
    rw [m_towncrierref08_May_loop1, mayP_eq _ _ (h y List.mem_cons_self), ih fun p hp => h p (List.mem_cons_of_mem _ hp)]
    simp only [Option.bind_some]
    by_cases hy : MayS y a.Ballot
    · by_cases hl : ∀ p ∈ l, MayS p a.Ballot
      · have : ∀ p ∈ y :: l, MayS p a.Ballot := by
          intro p hp
          rcases List.mem_cons.1 hp with rfl | hp
          · exact hy
          · exact hl p hp
        rw [if_neg (by simp [hy]), if_pos hl, if_pos this]
      · have : ¬ ∀ p ∈ y :: l, MayS p a.Ballot := fun hh => hl fun p hp => hh p (List.mem_cons_of_mem _ hp)
        rw [if_neg (by simp [hy]), if_neg hl, if_neg this]
    · have : ¬ ∀ p ∈ y :: l, MayS p a.Ballot := fun hh => hy (hh y List.mem_cons_self)
      rw [if_pos (by simp [hy]), if_neg this]

/-- an attempt's numbers, as the machine has them -/
structure Ranged (a : TAttempt) : Prop where
  phase : 0 ≤ a.Phase
  ballot : R64 a.Ballot
  proms : ∀ p ∈ a.Promises, R64 p.Ballot
  lp : a.Promises.length < 100000
  lm : a.Members.length < 100000
  la : a.Accepted.length < 100000

theorem mayR_eq (a : TAttempt) (h : Ranged a) : ∃ b, m_towncrierref08_May a = some b ∧ (b = true ↔ Valid a) := by
  have lp := h.lp
  have lm := h.lm
  rw [m_towncrierref08_May]
  by_cases h0 : a.Phase = 0
  · rw [if_pos h0]
    refine ⟨_, rfl, ?_⟩
    unfold Valid
    rw [if_pos h0]
    simp only [Bool.and_eq_true, beq_iff_eq]
    constructor
    · rintro ⟨⟨⟨⟨⟨h1, h2⟩, h3⟩, h4⟩, h5⟩, h6⟩
      have e2 : a.Members = [] := List.eq_nil_of_length_eq_zero (by omega)
      have e5 : a.Promises = [] := List.eq_nil_of_length_eq_zero (by omega)
      have e6 : a.Accepted = [] := List.eq_nil_of_length_eq_zero (by omega)
      cases a
      simp_all
    · intro e
      rw [e]
      simp
  · rw [if_neg h0]
    have hv : Valid a ↔ ((a.Phase = 1 ∧ a.Value = [] ∧ a.Accepted = []) ∨ a.Phase = 2 ∨ a.Phase = 3) ∧ Kept a := by unfold Valid; rw [if_neg h0]
    by_cases h3 : a.Phase > 3
    · refine ⟨false, ?_, ?_⟩
      · simp [h3]
      · simp only [Bool.false_eq_true, false_iff, hv]
        rintro ⟨h1, _⟩
        rcases h1 with h1 | h1 | h1 <;> omega
    · rw [bmay_eq _ h.ballot, qmayS, nodesR_eq _ (by omega)]
      by_cases c1 : BOk a.Ballot
      · by_cases c2 : QOk a.Members
        · by_cases c3 : (a.Wish.length : Int) > 1024
          · refine ⟨false, by simp [h3, c1, c2, c3], ?_⟩
            simp only [Bool.false_eq_true, false_iff, hv]
            rintro ⟨_, k⟩
            have := k.wish
            omega
          · by_cases c4 : riseS a.Members none (a.Promises.map TPromise.Node) = true
            · by_cases c5 : riseS a.Members none a.Accepted = true
              · simp only [h3, c1, c2, c3, risingR_eq, c4, c5, not_false_eq_true, if_true, Option.bind_some, decide_true, not_true_eq_false, or_self, if_false, counts_eq _ _ (show a.Members.length < 1000000 by omega), bestR_eq, mayR_loop a a.Promises h.proms]
                by_cases c6 : ∀ p ∈ a.Promises, MayS p a.Ballot
                · simp only [if_pos c6, Option.bind_some]
                  by_cases p1 : a.Phase = 1
                  · rw [if_pos p1]
                    refine ⟨_, rfl, ?_⟩
                    rw [hv, kept_iff]
                    simp only [Bool.and_eq_true, Bool.not_eq_true', beq_iff_eq]
                    constructor
                    · rintro ⟨⟨m1, m2⟩, m3⟩
                      have e6 : a.Accepted = [] := List.eq_nil_of_length_eq_zero (by omega)
                      exact ⟨.inl ⟨p1, m2, e6⟩, c1, c2, by omega, c4, c5, c6, by rw [m1, p1]; rfl, by rw [e6, most_nil, p1]; rfl, .inl p1⟩
                    · rintro ⟨k1, _, _, _, _, _, _, k2, _⟩
                      rcases k1 with ⟨_, k1, k3⟩ | k1 | k1
                      · exact ⟨⟨by rw [k2, p1]; rfl, k1⟩, by rw [k3]; rfl⟩
                      · omega
                      · omega
                  · rw [if_neg p1]
                    have hp : a.Phase = 2 ∨ a.Phase = 3 := by have := h.phase; omega
                    by_cases m8 : mostS a.Members (a.Promises.map TPromise.Node) = true
                    · by_cases m9 : a.Value = bestS a.Promises a.Wish 0
                      · refine ⟨mostS a.Members a.Accepted == (a.Phase == 3), ?_, ?_⟩
                        · simp only [m8, if_true, Option.bind_some, ← m9, and_self, beq_self_eq_true, Bool.true_and]
                        · rw [hv, kept_iff, beq_iff_eq]
                          constructor
                          · intro k
                            exact ⟨.inr hp, c1, c2, by omega, c4, c5, c6, by rw [m8]; symm; simp; omega, k, .inr m9⟩
                          · rintro ⟨_, _, _, _, _, _, _, _, k, _⟩; exact k
                      · refine ⟨false, ?_, ?_⟩
                        · simp [m8, m9]
                        · simp only [Bool.false_eq_true, false_iff, hv]
                          rintro ⟨_, k⟩
                          rcases k.value with k | k
                          · exact p1 k
                          · exact m9 k
                    · refine ⟨false, ?_, ?_⟩
                      · simp [m8]
                      · simp only [Bool.false_eq_true, false_iff, hv]
                        rintro ⟨_, k⟩
                        have := k.most
                        rw [show decide (a.Phase > 1) = true by simp; omega] at this
                        exact m8 this
                · refine ⟨false, by simp only [if_neg c6, Option.bind_some], ?_⟩
                  simp only [Bool.false_eq_true, false_iff, hv]
                  rintro ⟨_, k⟩
                  exact c6 k.may
              · refine ⟨false, by simp [h3, c1, c2, c3, risingR_eq, c4, c5], ?_⟩
                simp only [Bool.false_eq_true, false_iff, hv]
                rintro ⟨_, k⟩
                exact c5 k.accepted
            · refine ⟨false, by simp [h3, c1, c2, c3, risingR_eq, c4], ?_⟩
              simp only [Bool.false_eq_true, false_iff, hv]
              rintro ⟨_, k⟩
              exact c4 k.nodes
        · refine ⟨false, by simp [h3, c1, c2], ?_⟩
          simp only [Bool.false_eq_true, false_iff, hv]
          rintro ⟨_, k⟩
          exact c2 k.members
      · refine ⟨false, by simp [h3, c1], ?_⟩
        simp only [Bool.false_eq_true, false_iff, hv]
        rintro ⟨_, k⟩
        exact c1 k.ballot
end Go.Proofs
end
section
/- The law AttemptTakes in plain Lean. -/

namespace Go.Proofs
open Go.Tm
set_option linter.unusedSimpArgs false

theorem sameI_loop (b : List Int) : ∀ (l : List Int) (n : Nat), n + l.length = b.length → m_towncrierref01_SameInts_loop1 b l n = some (if l = b.drop n then .inr () else .inl false) := by
  intro l
  induction l with
  | nil => intro n h; simp [m_towncrierref01_SameInts_loop1]; simp at h; omega
  | cons y l ih =>
    intro n h
    simp only [List.length_cons] at h
    have hn : n < b.length := by omega
    have hg : b.getD n default = b[n] := by simp [List.getD, List.getElem?_eq_getElem hn]
    have hd := List.drop_eq_getElem_cons hn
    rw [m_towncrierref01_SameInts_loop1, if_pos hn, hg]
    generalize b[n] = z at hd
    rw [hd]
    by_cases hy : y = z
    · rw [if_neg (by simpa using hy), ih (n + 1) (by omega)]
      simp only [hy, List.cons.injEq, true_and]
    · rw [if_pos hy]
      simp only [hy, List.cons.injEq, false_and, if_false]
theorem sameI_eq (a b : List Int) : m_towncrierref01_SameInts a b = some (decide (a = b)) := by
  rw [m_towncrierref01_SameInts]
  by_cases h : (a.length : Int) = (b.length : Int)
  · rw [if_neg (by simpa using h), sameI_loop b a 0 (by omega), List.drop_zero]
    by_cases hab : a = b <;> simp [hab]
  · rw [if_pos h]
    have : a ≠ b := fun hh => h (by rw [hh])
    simp [this]
theorem sameP_loop (b : TAttempt) : ∀ (l : List TPromise) (n : Nat), n + l.length = b.Promises.length → m_towncrierref08_Same_loop1 b l n = some (if l = b.Promises.drop n then .inr () else .inl false) := by
  intro l
  induction l with
  | nil => intro n h; simp [m_towncrierref08_Same_loop1]; simp at h; omega
  | cons y l ih =>
    intro n h
    simp only [List.length_cons] at h
    have hn : n < b.Promises.length := by omega
    have hg : b.Promises.getD n default = b.Promises[n] := by simp [List.getD, List.getElem?_eq_getElem hn]
    have hd := List.drop_eq_getElem_cons hn
    rw [m_towncrierref08_Same_loop1, if_pos hn, hg]
    generalize b.Promises[n] = z at hd
    rw [hd]
    have e : (y.Node = z.Node ∧ y.Ballot = z.Ballot ∧ y.Value = z.Value) ↔ y = z := by cases y; cases z; simp
    by_cases hy : y = z
    · rw [if_neg (by simpa using e.2 hy), ih (n + 1) (by omega)]
      simp only [hy, List.cons.injEq, true_and]
    · rw [if_pos (fun hh => hy (e.1 hh))]
      simp only [hy, List.cons.injEq, false_and, if_false]
theorem sameR_eq (a b : TAttempt) : m_towncrierref08_Same a b = some (decide (a = b)) := by
  rw [m_towncrierref08_Same]
  simp only [sameI_eq]
  have hp : a.Promises.length = b.Promises.length → m_towncrierref08_Same_loop1 b a.Promises 0 = some (if a.Promises = b.Promises then .inr () else .inl false) := fun h => by
    rw [sameP_loop b a.Promises 0 (by omega), List.drop_zero]
  obtain ⟨p, bl, m, w, v, pr, ac⟩ := a
  obtain ⟨p', bl', m', w', v', pr', ac'⟩ := b
  simp only [TAttempt.mk.injEq] at hp ⊢
  by_cases h1 : p = p' <;> by_cases h2 : bl = bl' <;> by_cases h3 : m = m' <;> by_cases h4 : w = w' <;> by_cases h5 : v = v' <;> by_cases h7 : ac = ac' <;> by_cases h8 : (pr.length : Int) = (pr'.length : Int) <;>
    first
    | (have hq := hp (by omega)
       by_cases h6 : pr = pr'
       · subst h6
         rw [if_pos rfl] at hq
         simp [h1, h2, h3, h4, h5, h7, hq]
       · simp [h1, h2, h3, h4, h5, h6, h7, h8, hq])
    | (have h6 : pr ≠ pr' := fun hh => h8 (by rw [hh])
       simp [h1, h2, h3, h4, h5, h6, h7, h8])

def zAtt : TAttempt := ⟨0, 0, [], [], [], [], []⟩
/-- what Promised answers -/
noncomputable def promA (a : TAttempt) (b : Int) (p : TPromise) : TAttempt × Int :=
  open Classical in
  if ¬ Valid a then (zAtt, 8) else if a.Phase ≠ 1 ∨ b ≠ a.Ballot ∨ p.Node ∉ a.Members then (zAtt, 6) else if ¬ MayS p b then (zAtt, 8) else (promisedS a p, 0)
noncomputable def accA (a : TAttempt) (b n : Int) : TAttempt × Int :=
  open Classical in
  if ¬ Valid a then (zAtt, 8) else if a.Phase < 2 ∨ b ≠ a.Ballot ∨ n ∉ a.Members then (zAtt, 6) else (acceptedS a n, 0)

theorem check8 (a : TAttempt) (e : Int) (h : m_attempt_Check a = some e) : e = 0 ∨ e = 8 := by
  rw [m_attempt_Check] at h
  obtain ⟨b1, _, h⟩ := bind_some h
  split at h
  · exact .inr (Option.some.inj h).symm
  · exact .inl (Option.some.inj h).symm

theorem promP (a : TAttempt) (b : Int) (p : TPromise) (hl : a.Promises.length < 1000000) : m_attempt_Promised a b p = some (promA a b p) := by
  obtain ⟨r, h1, h2, h3⟩ := promised_eq a b p hl
  obtain ⟨e, he, hv⟩ := check_eq a hl
  unfold promA
  by_cases hva : Valid a
  · rw [if_neg (by simpa using hva)]
    have h0 := hv.2 hva
    subst h0
    by_cases c1 : a.Phase ≠ 1 ∨ b ≠ a.Ballot ∨ p.Node ∉ a.Members
    · rw [if_pos c1]
      rw [m_attempt_Promised, he, has_eq]
      simp only [Option.bind_some]
      rw [if_neg (by simp)]
      by_cases k : (¬ (a.Phase = 1)) ∨ (¬ (b = a.Ballot))
      · simp [k, zAtt]
      · have : p.Node ∉ a.Members := by
          rcases c1 with c | c | c
          · exact absurd (.inl c) k
          · exact absurd (.inr c) k
          · exact c
        simp [k, this, zAtt]
    · rw [if_neg c1]
      simp only [not_or, Classical.not_not] at c1
      by_cases c2 : MayS p b
      · rw [if_neg (by simpa using c2)]
        have hc : CanP a b p := ⟨hva, c1.1, c1.2.1, c1.2.2, c2⟩
        have hr := h2.2 hc
        rw [h1]
        congr 1
        exact Prod.ext (h3 hr) hr
      · rw [if_pos c2]
        rw [m_attempt_Promised, he, has_eq, may_eq]
        simp [c1.1, c1.2.1, c1.2.2, c2, zAtt]
        intro hh
        rw [c1.2.1] at c2
        exact absurd hh c2
  · rw [if_pos hva]
    have h0 : e = 8 := by
      rcases check8 a e he with h | h
      · exact absurd (hv.1 h) hva
      · exact h
    rw [m_attempt_Promised, he, h0]
    simp [zAtt]
theorem accP (a : TAttempt) (b n : Int) (hl : a.Promises.length < 1000000) : m_attempt_Accepted a b n = some (accA a b n) := by
  obtain ⟨r, h1, h2, h3⟩ := accepted_eq a b n hl
  obtain ⟨e, he, hv⟩ := check_eq a hl
  unfold accA
  by_cases hva : Valid a
  · rw [if_neg (by simpa using hva)]
    have h0 := hv.2 hva
    subst h0
    by_cases c1 : a.Phase < 2 ∨ b ≠ a.Ballot ∨ n ∉ a.Members
    · rw [if_pos c1]
      rw [m_attempt_Accepted, he, has_eq]
      simp only [Option.bind_some]
      rw [if_neg (by simp)]
      by_cases k : (a.Phase < 2) ∨ (¬ (b = a.Ballot))
      · simp [k, zAtt]
      · have : n ∉ a.Members := by
          rcases c1 with c | c | c
          · exact absurd (.inl c) k
          · exact absurd (.inr c) k
          · exact c
        simp [k, this, zAtt]
    · rw [if_neg c1]
      simp only [not_or, Classical.not_not] at c1
      have hc : CanA a b n := ⟨hva, by omega, c1.2.1, c1.2.2⟩
      have hr := h2.2 hc
      rw [h1]
      congr 1
      exact Prod.ext (h3 hr) hr
  · rw [if_pos hva]
    have h0 : e = 8 := by
      rcases check8 a e he with h | h
      · exact absurd (hv.1 h) hva
      · exact h
    rw [m_attempt_Accepted, he, h0]
    simp [zAtt]

/-- the first place whose key is not less, by counting up -/
theorem plc_loop {α : Type} [Inhabited α] (key : α → Int) (v : Int) (l : List α) (hl : l.length < 1000000) (f : Nat → Int → Option Int)
    (hf : ∀ fu (n : Nat), n ≤ l.length → f (fu + 1) (n : Int) = if n < l.length ∧ key (l.getD n default) < v then f fu ((n + 1 : Nat) : Int) else some (n : Int)) :
    ∀ (fu n : Nat), l.length - n < fu → n ≤ l.length → f fu (n : Int) = some ((n + plc key v (l.drop n) : Nat) : Int) := by
  intro fu
  induction fu with
  | zero => intro n h; omega
  | succ fu ih =>
    intro n h hn
    rw [hf fu n hn]
    by_cases hlt : n < l.length
    · have hg : l.getD n default = l[n] := by simp [List.getD, List.getElem?_eq_getElem hlt]
      rw [List.drop_eq_getElem_cons hlt, hg]
      by_cases hk : key l[n] < v
      · rw [if_pos ⟨hlt, hk⟩, ih (n + 1) (by omega) (by omega), plc, if_pos hk]
        congr 2; omega
      · rw [if_neg (fun hh => hk hh.2), plc, if_neg hk, Nat.add_zero]
    · rw [if_neg (fun hh => hlt hh.1), List.drop_of_length_le (by omega)]; rfl
theorem wr1 (n : Nat) (h : n < 1000000) : wr .i64 ((n : Int) + 1) = ((n + 1 : Nat) : Int) := wr_eq _ _ (by show (-9223372036854775808 : Int) ≤ _; omega) (by show _ ≤ (9223372036854775807 : Int); omega)
theorem place_p (a : TAttempt) (p : TPromise) (hl : a.Promises.length < 1000000) : m_towncrierref08_Promised_loop1 a p (a.Promises.length + 1) 0 = some (plc TPromise.Node p.Node a.Promises : Int) := by
  have := plc_loop TPromise.Node p.Node a.Promises hl (m_towncrierref08_Promised_loop1 a p) (fun fu n hn => by
    rw [m_towncrierref08_Promised_loop1, if_pos (fun h => ⟨by omega, h⟩), Int.toNat_natCast]
    by_cases hlt : n < a.Promises.length
    · rw [wr1 n (by omega)]
      have : (n : Int) < (a.Promises.length : Int) := by omega
      simp only [this, hlt, true_and]
    · have : ¬ (n : Int) < (a.Promises.length : Int) := by omega
      simp only [this, hlt, false_and, if_false]) (a.Promises.length + 1) 0 (by omega) (by omega)
  rw [List.drop_zero, Nat.zero_add] at this
  exact this
theorem place_a (a : TAttempt) (n : Int) (hl : a.Accepted.length < 1000000) : m_towncrierref08_Accepted_loop1 a n (a.Accepted.length + 1) 0 = some (plc (fun x : Int => x) n a.Accepted : Int) := by
  have := plc_loop (fun x : Int => x) n a.Accepted hl (m_towncrierref08_Accepted_loop1 a n) (fun fu k hn => by
    rw [m_towncrierref08_Accepted_loop1, if_pos (fun h => ⟨by omega, h⟩), Int.toNat_natCast]
    by_cases hlt : k < a.Accepted.length
    · rw [wr1 k (by omega)]
      have : (k : Int) < (a.Accepted.length : Int) := by omega
      simp only [this, hlt, true_and]
    · have : ¬ (k : Int) < (a.Accepted.length : Int) := by omega
      simp only [this, hlt, false_and, if_false]) (a.Accepted.length + 1) 0 (by omega) (by omega)
  rw [List.drop_zero, Nat.zero_add] at this
  exact this
theorem twinR_eq (a : TAttempt) (h1 : a.Members.length < 1000000) (h2 : a.Promises.length < 1000000) (h3 : a.Accepted.length < 1000000) : m_towncrierref08_Twin a = some a := by
  rw [m_towncrierref08_Twin, if_pos h1, if_pos h2, if_pos h3]

theorem promR (a : TAttempt) (b : Int) (p : TPromise) (h : Ranged a) (hp : R64 p.Ballot) : m_towncrierref08_Promised a b p = some (promA a b p) := by
  obtain ⟨v, hm, hv⟩ := mayR_eq a h
  have := h.lp
  have := h.lm
  have := h.la
  rw [m_towncrierref08_Promised, hm]
  unfold promA
  simp only [Option.bind_some]
  by_cases hva : Valid a
  · rw [if_neg (show ¬ ¬ Valid a from fun hh => hh hva), hv.2 hva, if_neg (show ¬ ¬ (true = true) by simp), hasR_eq, mayP_eq _ _ hp]
    by_cases k : (¬ (a.Phase = 1)) ∨ (¬ (b = a.Ballot))
    · rw [if_pos (show (a.Phase ≠ 1 ∨ b ≠ a.Ballot ∨ p.Node ∉ a.Members) from by rcases k with k | k; exact .inl k; exact .inr (.inl k))]
      simp [k, zAtt]
    · have k1 : a.Phase = 1 := Classical.byContradiction fun hh => k (.inl hh)
      have k2 : b = a.Ballot := Classical.byContradiction fun hh => k (.inr hh)
      by_cases k3 : p.Node ∈ a.Members
      · rw [if_neg (show ¬ (a.Phase ≠ 1 ∨ b ≠ a.Ballot ∨ p.Node ∉ a.Members) by rintro (hh | hh | hh); exact hh k1; exact hh k2; exact hh k3)]
        by_cases k4 : MayS p b
        · rw [if_neg (show ¬ ¬ MayS p b by simpa using k4), twinR_eq a (by omega) (by omega) (by omega), nodesR_eq _ (by omega)]
          simp only [hasR_eq, k1, k2, k3, k4, decide_true, not_true_eq_false, or_self, if_false, not_false_eq_true, if_true, Option.bind_some]
          unfold promisedS
          rw [k2] at k4
          by_cases hin : p.Node ∈ a.Promises.map TPromise.Node
          · rw [if_pos hin]
            simp [hin, k4]
          · rw [if_neg hin]
            have hk := hva.kept (by omega)
            obtain ⟨l1, l2, l3⟩ := hk.lens
            have hle := plc_le TPromise.Node p.Node a.Promises
            have htake := ins_take TPromise.Node p a.Promises
            have hln := ins_len TPromise.Node p a.Promises
            rw [place_p a p (by omega)]
            simp only [hin, decide_false, Bool.false_eq_true, if_false, Option.bind_some, Int.toNat_natCast, k4, decide_true, not_true_eq_false]
            generalize plc TPromise.Node p.Node a.Promises = K at *
            have e1 : ((a.Promises.take K) ++ [p]) ++ (a.Promises.drop K) = insN p a.Promises := by rw [List.append_assoc]; exact htake
            rw [if_pos (by omega), if_pos (by simp; omega), if_pos (by simp; omega), if_pos (by omega), if_pos (by simp; omega), e1, nodesR_eq _ (by show (insK TPromise.Node p a.Promises).length < _; omega)]
            simp only [Option.bind_some, counts_eq _ _ (show a.Members.length < 1000000 by omega), bestR_eq]
            unfold withP
            cases hmm : mostS a.Members ((insN p a.Promises).map TPromise.Node) with
            | true => simp [k1]
            | false => simp [k1]
        · rw [if_pos k4]
          rw [k2] at k4
          simp [k1, k2, k3, k4, zAtt]
      · rw [if_pos (show (a.Phase ≠ 1 ∨ b ≠ a.Ballot ∨ p.Node ∉ a.Members) from .inr (.inr k3))]
        simp [k1, k2, k3, zAtt]
  · have : v = false := by
      cases v with
      | true => exact absurd (hv.1 rfl) hva
      | false => rfl
    rw [if_pos hva, this]
    simp [zAtt]
theorem accR (a : TAttempt) (b n : Int) (h : Ranged a) : m_towncrierref08_Accepted a b n = some (accA a b n) := by
  obtain ⟨v, hm, hv⟩ := mayR_eq a h
  have := h.lp
  have := h.lm
  have := h.la
  rw [m_towncrierref08_Accepted, hm]
  unfold accA
  simp only [Option.bind_some]
  by_cases hva : Valid a
  · rw [if_neg (show ¬ ¬ Valid a from fun hh => hh hva), hv.2 hva, if_neg (show ¬ ¬ (true = true) by simp), hasR_eq]
    by_cases k : (a.Phase < 2) ∨ (¬ (b = a.Ballot))
    · rw [if_pos (show (a.Phase < 2 ∨ b ≠ a.Ballot ∨ n ∉ a.Members) from by rcases k with k | k; exact .inl k; exact .inr (.inl k))]
      simp [k, zAtt]
    · have k1 : ¬ a.Phase < 2 := fun hh => k (.inl hh)
      have k2 : b = a.Ballot := Classical.byContradiction fun hh => k (.inr hh)
      by_cases k3 : n ∈ a.Members
      · rw [if_neg (show ¬ (a.Phase < 2 ∨ b ≠ a.Ballot ∨ n ∉ a.Members) by rintro (hh | hh | hh); exact k1 hh; exact hh k2; exact hh k3)]
        rw [twinR_eq a (by omega) (by omega) (by omega)]
        simp only [hasR_eq, k1, k2, k3, decide_true, not_true_eq_false, or_self, if_false, not_false_eq_true, if_true, Option.bind_some]
        have hk := hva.kept (by omega)
        obtain ⟨l1, l2, l3⟩ := hk.lens
        unfold acceptedS
        by_cases hin : n ∈ a.Accepted
        · -- taken already: the phase tells whether most accepted
          rw [if_pos hin]
          simp only [hin, decide_true, if_true]
          congr 1
          have hc := hk.chosen
          by_cases hm3 : mostS a.Members a.Accepted = true
          · rw [hm3] at hc
            have h3 : a.Phase = 3 := by simpa using hc.symm
            rw [if_pos hm3]
            cases a
            simp_all
          · rw [if_neg hm3]
        · rw [if_neg hin]
          have hle := plc_le (fun x : Int => x) n a.Accepted
          have htake := ins_take (fun x : Int => x) n a.Accepted
          rw [place_a a n (by omega)]
          simp only [hin, decide_false, Bool.false_eq_true, if_false, Option.bind_some, Int.toNat_natCast]
          generalize plc (fun x : Int => x) n a.Accepted = K at *
          have e1 : ((a.Accepted.take K) ++ [n]) ++ (a.Accepted.drop K) = insI n a.Accepted := by rw [List.append_assoc]; exact htake
          rw [if_pos (by omega), if_pos (by simp; omega), if_pos (by simp; omega), if_pos (by omega), if_pos (by simp; omega), e1]
          simp only [Option.bind_some, counts_eq _ _ (show a.Members.length < 1000000 by omega)]
          cases hmm : mostS a.Members (insI n a.Accepted) with
          | true => simp
          | false => simp
      · rw [if_pos (show (a.Phase < 2 ∨ b ≠ a.Ballot ∨ n ∉ a.Members) from .inr (.inr k3))]
        simp [k1, k2, k3, zAtt]
  · have : v = false := by
      cases v with
      | true => exact absurd (hv.1 rfl) hva
      | false => rfl
    rw [if_pos hva, this]
    simp [zAtt]
end Go.Proofs
end
section
/- The law AttemptTakes in plain Lean: the end. -/

namespace Go.Proofs
open Go.Tm
set_option linter.unusedSimpArgs false

theorem turn1 : ∀ (fu n : Nat) (l : List Int), l.length - n < fu → l.length < 1000000 → n ≤ l.length → ∃ r, m_towncrierlaw08_turn_loop1 fu l (n : Int) = some r := by
  intro fu
  induction fu with
  | zero => intro n l h; omega
  | succ fu ih =>
    intro n l h hl hn
    rw [m_towncrierlaw08_turn_loop1]
    by_cases hlt : n < l.length
    · rw [if_pos (by omega), if_pos (by omega), wr1 n (by omega)]
      exact ih (n + 1) _ (by simp; omega) (by simpa using hl) (by simp; omega)
    · rw [if_neg (by omega)]; exact ⟨_, rfl⟩
theorem turn2 : ∀ (fu n : Nat) (l : List TPromise), l.length - n < fu → l.length < 1000000 → n ≤ l.length → ∃ r, m_towncrierlaw08_turn_loop2 fu l (n : Int) = some r := by
  intro fu
  induction fu with
  | zero => intro n l h; omega
  | succ fu ih =>
    intro n l h hl hn
    rw [m_towncrierlaw08_turn_loop2]
    by_cases hlt : n < l.length
    · rw [if_pos (by omega), if_pos (by omega), wr1 n (by omega)]
      exact ih (n + 1) _ (by simp; omega) (by simpa using hl) (by simp; omega)
    · rw [if_neg (by omega)]; exact ⟨_, rfl⟩
theorem turn3 : ∀ (fu n : Nat) (l : List Int), l.length - n < fu → l.length < 1000000 → n ≤ l.length → ∃ r, m_towncrierlaw08_turn_loop3 fu l (n : Int) = some r := by
  intro fu
  induction fu with
  | zero => intro n l h; omega
  | succ fu ih =>
    intro n l h hl hn
    rw [m_towncrierlaw08_turn_loop3]
    by_cases hlt : n < l.length
    · rw [if_pos (by omega), if_pos (by omega), wr1 n (by omega)]
      exact ih (n + 1) _ (by simp; omega) (by simpa using hl) (by simp; omega)
    · rw [if_neg (by omega)]; exact ⟨_, rfl⟩
structure Small (a : TAttempt) : Prop where
  m : a.Members.length < 10000
  p : a.Promises.length < 10000
  c : a.Accepted.length < 10000
theorem turn_tot (a : TAttempt) (h : Small a) : ∃ r, m_towncrierlaw08_turn a = some r := by
  have := h.m
  have := h.p
  have := h.c
  obtain ⟨r1, h1⟩ := turn1 (a.Members.length + 1) 0 a.Members (by omega) (by omega) (by omega)
  obtain ⟨r2, h2⟩ := turn2 (a.Promises.length + 1) 0 a.Promises (by omega) (by omega) (by omega)
  obtain ⟨r3, h3⟩ := turn3 (a.Accepted.length + 1) 0 a.Accepted (by omega) (by omega) (by omega)
  refine ⟨r3, ?_⟩
  rw [m_towncrierlaw08_turn]
  rw [show ((0 : Nat) : Int) = 0 from rfl] at h1 h2 h3
  rw [h1, h2]
  exact h3
theorem prom_small (a : TAttempt) (b : Int) (p : TPromise) (h : a.Members.length ≤ 1000 ∧ a.Promises.length ≤ 1000 ∧ a.Accepted.length ≤ 1000) : Small (promA a b p).1 := by
  have hz : Small zAtt := ⟨by decide, by decide, by decide⟩
  have hl := ins_len TPromise.Node p a.Promises
  unfold promA
  split
  · exact hz
  · split
    · exact hz
    · split
      · exact hz
      · unfold promisedS
        split
        · exact ⟨show a.Members.length < 10000 by omega, show a.Promises.length < 10000 by omega, show a.Accepted.length < 10000 by omega⟩
        · unfold withP
          have : (insN p a.Promises).length = a.Promises.length + 1 := hl
          split
          · exact ⟨show a.Members.length < 10000 by omega, show (insN p a.Promises).length < 10000 by omega, show a.Accepted.length < 10000 by omega⟩
          · exact ⟨show a.Members.length < 10000 by omega, show (insN p a.Promises).length < 10000 by omega, show a.Accepted.length < 10000 by omega⟩
theorem acc_small (a : TAttempt) (b n : Int) (h : a.Members.length ≤ 1000 ∧ a.Promises.length ≤ 1000 ∧ a.Accepted.length ≤ 1000) : Small (accA a b n).1 := by
  have hz : Small zAtt := ⟨by decide, by decide, by decide⟩
  have hl : (insI n a.Accepted).length = a.Accepted.length + 1 := ins_len (fun x : Int => x) n a.Accepted
  unfold accA
  split
  · exact hz
  · split
    · exact hz
    · unfold acceptedS
      refine ⟨show a.Members.length < 10000 by omega, show a.Promises.length < 10000 by omega, ?_⟩
      show (if n ∈ a.Accepted then a.Accepted else insI n a.Accepted).length < 10000
      split <;> omega
theorem great_loop (l : List TPromise) : ∀ n acc, ∃ r, m_towncrierref08_Great_loop1 l n acc = some r := by
  induction l with
  | nil => intro n acc; exact ⟨_, m_towncrierref08_Great_loop1_n n acc⟩
  | cons y l ih =>
    intro n acc
    rw [m_towncrierref08_Great_loop1_c]
    split
    · exact ih _ _
    · exact ⟨_, rfl⟩
theorem great_eq (a : TAttempt) : ∃ b, m_towncrierref08_Great a = some b ∧ (b = false → a.Members.length ≤ 1000 ∧ a.Promises.length ≤ 1000 ∧ a.Accepted.length ≤ 1000) := by
  obtain ⟨r, hr⟩ := great_loop a.Promises 0 (wr .i64 ((a.Wish.length : Int) + (a.Value.length : Int)))
  rw [m_towncrierref08_Great, hr]
  refine ⟨_, rfl, fun h => ?_⟩
  simp only [Bool.or_eq_false_iff, decide_eq_false_iff_not] at h
  omega
theorem takes_law (a0 a1 : TAttempt) (a2 : Int) (a3 : TPromise) (a4 : Int) (hw : wfL [a0.d, a1.d, .int .i64 a2, a3.d, .int .i64 a4]) : m_towncrierlaw08_AttemptTakes a0 a1 a2 a3 a4 = some true := by
  obtain ⟨g0, hg0, hs0⟩ := great_eq a0
  obtain ⟨g1, hg1, _⟩ := great_eq a1
  rw [m_towncrierlaw08_AttemptTakes, hg0, hg1]
  simp only [Option.bind_some]
  cases g0 with
  | true => simp
  | false =>
    have hs := hs0 rfl
    simp only [Bool.false_eq_true, not_false_eq_true, if_true, Option.bind_some, false_or]
    by_cases hx : (g1 = true) ∨ ((a3.Value.length : Int) > 5000)
    · rw [if_pos hx]
    · rw [if_neg hx]
      simp only [wfL, TAttempt.d, TPromise.d, wf, wfL_iff, List.mem_map, and_true] at hw
      have hR : Ranged a0 := by
        obtain ⟨⟨w1, w2, _, _, _, ⟨_, w3⟩, _⟩, _⟩ := hw
        refine ⟨?_, w2, fun p hp => ?_, by omega, by omega, by omega⟩
        · exact w1.1
        · have := (w3 (by decide)) _ ⟨p, hp, rfl⟩
          simp only [wf, wfL] at this
          exact this.2.1
      have hp : R64 a3.Ballot := hw.2.2.2.1.2.1
      obtain ⟨e, he, hv⟩ := check_eq a0 (by omega)
      obtain ⟨v, hm, hmv⟩ := mayR_eq a0 hR
      obtain ⟨t1, ht1⟩ := turn_tot _ (prom_small a0 a2 a3 hs)
      obtain ⟨t2, ht2⟩ := turn_tot _ (acc_small a0 a2 a4 hs)
      obtain ⟨t3, ht3⟩ := turn_tot a0 ⟨by omega, by omega, by omega⟩
      rw [twinR_eq a0 (by omega) (by omega) (by omega)]
      simp only [Option.bind_some]
      rw [promP a0 a2 a3 (by omega), promR a0 a2 a3 hR hp, accP a0 a2 a4 (by omega), accR a0 a2 a4 hR, twin_eq a0 (by omega) (by omega) (by omega)]
      have hev : (e == 0) = v := by
        rw [Bool.eq_iff_iff, beq_iff_eq]
        exact hv.trans hmv.symm
      simp [sameR_eq, same_eq, he, hm, hev, ht1, ht2, ht3]
end Go.Proofs
end
section
/- A law's row, off its contract: what is handed in, read. -/






namespace Go.Tm
open Go.RowKit Go.WideShapes Go.ChangeShapes

/-! ## What is handed in, read -/
def aggT (P : Program) (t : TypeId) : Bool := match P.underlying t with
  | some (.struct _) => true
  | _ => false

def mkD (P : Program) (t : TypeId) (l : List D) : D := bif aggT P t then .agg l else l.headD .undef

def fieldsIn (P : Program) (chk : TypeId → Bool) : Nat → List Field → Nat → Bool
  | off, [], tot => Nat.beq off tot
  | off, f :: fs, tot => Nat.beq f.offset off && chk f.type && fieldsIn P chk (off + P.cellsOf f.type) fs tot

/-- plain data: bools, numbers, strings, lists and structs of such -/
def dataT (P : Program) : Nat → TypeId → Bool
  | 0, _ => false
  | n + 1, t => match P.underlying t with
    | some .bool => true
    | some (.int _) => true
    | some .string => true
    | some (.slice e) => dataT P n e && Nat.blt 0 (P.cellsOf e) && (aggT P e || Nat.beq (P.cellsOf e) 1)
    | some (.struct fs) => fieldsIn P (dataT P n) 0 fs.toList (P.cellsOf t)
    | _ => false

def typedL (p : TypeId → List D → Prop) : List TypeId → List D → Prop
  | [], l => l = []
  | t :: ts, l => ∃ l1 l2, l = l1 ++ l2 ∧ p t l1 ∧ typedL p ts l2

/-- cells that are such data -/
def typed (P : Program) : Nat → TypeId → List D → Prop
  | 0, _, _ => False
  | n + 1, t, l => match P.underlying t with
    | some .bool => ∃ b, l = [.bool b]
    | some (.int k) => ∃ m, l = [.int k m]
    | some .string => ∃ s, l = [.str s]
    | some (.slice e) => ∃ xs : List (List D), l = [.imm (P.cellsOf e) (xs.map (mkD P e)) 4] ∧ ∀ x ∈ xs, typed P n e x
    | some (.struct fs) => typedL (typed P n) (fs.toList.map (·.type)) l
    | _ => False

theorem reps_append' {C : Cx} : ∀ {l1 l2 : List D} {v1 v2 : List Value}, reps C l1 v1 → reps C l2 v2 → reps C (l1 ++ l2) (v1 ++ v2)
  | [], l2, v1, v2, h1, h2 => by simp only [reps] at h1; subst h1; simpa using h2
  | d :: ds, l2, v1, v2, h1, h2 => by
    simp only [reps] at h1
    obtain ⟨v, vs, rfl, hd, h1⟩ := h1
    simp only [List.cons_append, reps]
    exact ⟨v, vs ++ v2, rfl, hd, reps_append' h1 h2⟩

theorem elems_of {C : Cx} {b s : Nat} {p : List D → Prop} {f : List D → D} : ∀ (n o : Nat), (∀ i, i < n → ∃ l v, p l ∧ rep C (f l) v ∧ v.cells.size = s ∧ v.cells.toList.all (·.oneCell') = true ∧ C.w.rangeAt b (o + i * s) v.cells.toList) →
    ∃ xs : List (List D), xs.length = n ∧ elems C (xs.map f) b o s ∧ ∀ x ∈ xs, p x
  | 0, o, _ => ⟨[], rfl, by simp only [List.map_nil, elems], by simp⟩
  | n + 1, o, h => by
    obtain ⟨l, v, h1, h2, h3, h4, h5⟩ := h 0 (by omega)
    obtain ⟨xs, g1, g2, g3⟩ := elems_of n (o + s) (fun i hi => by
      obtain ⟨l, v, h1, h2, h3, h4, h5⟩ := h (i + 1) (by omega)
      exact ⟨l, v, h1, h2, h3, h4, by rwa [show o + (i + 1) * s = o + s + i * s by rw [Nat.add_mul]; omega] at h5⟩)
    refine ⟨l :: xs, by simp [g1], ?_, by simpa using ⟨h1, g3⟩⟩
    simp only [List.map_cons, elems]
    exact ⟨⟨v, h2, h3, h4, by simpa using h5⟩, g2⟩

theorem fieldsIn_le {P : Program} {chk : TypeId → Bool} : ∀ (fs : List Field) (off tot : Nat), fieldsIn P chk off fs tot = true → off ≤ tot
  | [], off, tot, h => Nat.le_of_eq (Nat.eq_of_beq_eq_true h)
  | f :: fs, off, tot, h => by
    simp only [fieldsIn, Bool.and_eq_true] at h
    have := fieldsIn_le fs _ _ h.2
    omega

section
variable {H : Type} {enc : TypeId × Value → H} {P : Program} {w : World} {sp : Nat → Bool}

theorem trod_reps : ∀ (n fuel : Nat) (t : TypeId) (cs : List Value) (x : DataW H × List MemPlace) (C : Cx), C.w = w → (∀ b, ¬ C.M b) → (∀ b, C.Z b) → dataT P n t = true → DataW.trod enc P w 0 sp true fuel t cs = some x →
    ∃ l, reps C l cs ∧ typed P n t l ∧ cs.all (·.oneCell') = true
  | 0, _, _, _, _, _, _, _, _, h, _ => by simp [dataT] at h
  | n + 1, fuel, t, cs, x, C, hw, hM, hlo, hd, h => by
    unfold dataT at hd
    split at hd
    · rename_i ht
      simp only [typed, ht]
      obtain ⟨b, rfl, _⟩ := DataW.trod_bool ht h
      exact ⟨[.bool b], by simp only [reps, rep]; exact ⟨_, _, rfl, rfl, rfl⟩, ⟨b, rfl⟩, rfl⟩
    · rename_i k ht
      simp only [typed, ht]
      obtain ⟨m, rfl, _, hwf⟩ := DataW.trod_int ht h
      simp only [Lit.wf, Bool.and_eq_true, decide_eq_true_eq] at hwf
      exact ⟨[.int k m], by simp only [reps, rep]; exact ⟨_, _, rfl, ⟨rfl, hwf⟩, rfl⟩, ⟨m, rfl⟩, rfl⟩
    · rename_i ht
      simp only [typed, ht]
      obtain ⟨s, rfl, _, hs⟩ := DataW.trod_string ht h
      refine ⟨[.str s.data.toList], ?_, ⟨_, rfl⟩, rfl⟩
      simp only [reps, rep]
      refine ⟨_, _, rfl, ⟨by rw [Array.toArray_toList], ?_⟩, rfl⟩
      have h1 : s.data.toList.length = s.size := by rw [Array.length_toList]; rfl
      have h2 : s.size ≤ 9223372036854775807 := hs
      rw [h1]; omega
    · rename_i e ht
      simp only [typed, ht]
      simp only [Bool.and_eq_true, Bool.or_eq_true] at hd
      obtain ⟨⟨hde, hpos⟩, hone⟩ := hd
      have hpos : 0 < P.cellsOf e := Nat.le_of_ble_eq_true hpos
      rcases DataW.trod_slice ht h with ⟨rfl, _⟩ | ⟨a, len, cap, els, rest, m, _, rfl, _, hb, hl, hc, hlen, hel, _⟩
      · refine ⟨[.imm (P.cellsOf e) (([] : List (List D)).map (mkD P e)) 4], ?_, ⟨[], rfl, fun _ h => by cases h⟩, rfl⟩
        simp only [reps, rep, List.map_nil, List.length_nil]
        exact ⟨_, _, rfl, ⟨none, 0, rfl, by simp, by simp, by simp, by simp, by simp, by simp, by simp, .inl trivial⟩, rfl⟩
      · have hc : cap ≤ 9223372036854775807 := hc
        have key : ∀ i, i < len → ∃ l v, typed P n e l ∧ rep (C.at C.Z) (mkD P e l) v ∧ v.cells.size = P.cellsOf e ∧ v.cells.toList.all (·.oneCell') = true ∧ (i = 0 → a.spot = none) ∧ a.block < w.heap.size ∧ w.rangeAt a.block (a.off + i * P.cellsOf e) v.cells.toList := by
          intro i hi
          have hi' := hel i hi
          have hsome : els[i]? = some els[i] := List.getElem?_eq_getElem (by omega)
          rw [hsome, Option.bind_eq_some_iff] at hi'
          obtain ⟨cs', hcs, htr⟩ := hi'
          obtain ⟨_, hclen, hcell⟩ := World.cells?_some hcs
          obtain ⟨l, g1, g2, g3⟩ := trod_reps n m e cs' _ (C.at C.Z) (by simpa [Cx.at] using hw) (by simpa [Cx.at] using hM) (by simpa [Cx.at] using hlo) hde htr
          have h0 := hcell 0 hpos
          have hc0 : cs'[0]? = some cs'[0] := List.getElem?_eq_getElem (by omega)
          rw [hc0] at h0
          have hadd : ∀ j, ((a.add (i * P.cellsOf e)).add j).block = a.block := by intro j; unfold Addr.add; split <;> split <;> rfl
          have hblk : a.block < w.heap.size ∧ ((a.add (i * P.cellsOf e)).add 0).spot = none := by
            unfold World.cell? at h0
            rw [hadd] at h0
            split at h0
            · rename_i c T fz hh
              have := (Array.getElem?_eq_some_iff.1 hh).1
              split at h0
              · cases h0
              · rename_i hs; exact ⟨this, by simpa using hs⟩
            · cases h0
          have hspot0 : (a.add (i * P.cellsOf e)).spot = none := by simpa [Addr.add] using hblk.2
          have hae : ∀ j, j < P.cellsOf e → (a.add (i * P.cellsOf e)).add j = ⟨a.block, a.off + i * P.cellsOf e + j, none⟩ := by
            intro j _
            unfold Addr.add at hspot0 ⊢
            split at hspot0
            · rename_i hz
              simp only [hz, if_true, Nat.add_zero]
              split
              · rename_i hj; subst hj; cases a; simp_all
              · rfl
            · rename_i hz
              simp only [hz, if_false]
              split
              · rename_i hj; subst hj; rfl
              · rfl
          have hrange : w.rangeAt a.block (a.off + i * P.cellsOf e) cs' := by
            intro j v hj
            have hjl := (List.getElem?_eq_some_iff.1 hj).1
            have := hcell j (by omega)
            rw [hae j (by omega), hj] at this
            exact this
          cases hag : aggT P e with
          | true =>
            refine ⟨l, .agg cs'.toArray, g2, ?_, by simp [Value.cells, hclen], by simpa [Value.cells] using g3, ?_, hblk.1, by simpa [Value.cells] using hrange⟩
            · simp only [mkD, hag, cond_true, rep]
              exact ⟨cs', rfl, g1⟩
            · rintro rfl; simpa [Addr.add] using hspot0
          | false =>
            rw [hag] at hone
            have h1 : P.cellsOf e = 1 := by simpa using hone
            rw [h1] at hclen
            obtain ⟨v, rfl⟩ := List.length_eq_one_iff.1 hclen
            obtain ⟨d, rfl⟩ : ∃ d, l = [d] := List.length_eq_one_iff.1 ((reps_length _ _ g1).symm.trans rfl)
            simp only [reps] at g1
            obtain ⟨v', vs', hv, hd, rfl⟩ := g1
            obtain rfl : v = v' := (List.cons.inj hv).1
            have hcv : v.cells = #[v] := by
              simp only [List.all_cons, List.all_nil, Bool.and_true] at g3
              cases v <;> first | rfl | simp [Value.oneCell'] at g3
            refine ⟨[d], v, g2, by simpa [mkD, hag] using hd, by simp [hcv, h1], by simpa [hcv] using g3, ?_, hblk.1, by simpa [hcv] using hrange⟩
            rintro rfl; simpa [Addr.add] using hspot0
        obtain ⟨xs, g1, g2, g3⟩ := elems_of (C := C.at C.Z) (b := a.block) (s := P.cellsOf e) (p := typed P n e) (f := mkD P e) len a.off (fun i hi => by
          obtain ⟨l, v, h1, h2, h3, h4, _, _, h5⟩ := key i hi
          exact ⟨l, v, h1, h2, h3, h4, by subst hw; exact h5⟩)
        refine ⟨[.imm (P.cellsOf e) (xs.map (mkD P e)) 4], ?_, ⟨xs, rfl, g3⟩, rfl⟩
        simp only [reps, rep, List.length_map, g1]
        refine ⟨_, _, rfl, ⟨some a, cap, rfl, hl, by omega, by simp, by simp, by simp, by simp, by simp, ?_⟩, rfl⟩
        rcases Nat.eq_zero_or_pos len with h0 | h0
        · left; subst h0; have := List.length_eq_zero_iff.1 g1; simp [this]
        · right
          obtain ⟨_, _, _, _, _, _, k1, k2, _⟩ := key 0 h0
          intro Z hZ
          have hZ : C.Z = Z := by simpa [Cx.zone] using hZ
          subst hZ
          exact ⟨a, rfl, k1 rfl, hM _, hlo _, by rw [hw]; exact k2, g2⟩
    · rename_i fs ht
      simp only [typed, ht]
      obtain ⟨xs, m, _, _, hcl, hxl, hf⟩ := DataW.trod_struct ht h
      have key : ∀ (gs : List Field) (k : Nat), (∀ i f, gs[i]? = some f → fs[k + i]? = some f) → ∀ off, fieldsIn P (dataT P n) off gs (P.cellsOf t) = true → off ≤ cs.length → 
          ∃ l, reps C l (cs.drop off) ∧ typedL (typed P n) (gs.map (·.type)) l ∧ (cs.drop off).all (·.oneCell') = true := by
        intro gs
        induction gs with
        | nil =>
          intro k _ off ho _
          simp only [fieldsIn] at ho
          have ho := Nat.eq_of_beq_eq_true ho
          have : cs.drop off = [] := by rw [ho, ← hcl]; simp
          rw [this]
          exact ⟨[], by simp only [reps], rfl, rfl⟩
        | cons f gs ih =>
          intro k hk off ho hle
          simp only [fieldsIn, Bool.and_eq_true] at ho
          obtain ⟨⟨h1, h2⟩, h3⟩ := ho
          have h1 := Nat.eq_of_beq_eq_true h1
          have hfk := hf k f (by simpa using hk 0 f rfl)
          have hkl : k < xs.length := by
            have := hk 0 f rfl
            rw [hxl]
            exact (Array.getElem?_eq_some_iff.1 (by simpa using this)).1
          rw [List.getElem?_eq_getElem hkl, h1] at hfk
          obtain ⟨l1, g1, g2, g3⟩ := trod_reps n m f.type _ _ C hw hM hlo h2 hfk
          have hl1 : ((cs.drop off).take (P.cellsOf f.type)).length = P.cellsOf f.type := by
            have := fieldsIn_le _ _ _ h3
            simp
            omega
          obtain ⟨l2, k1, k2, k3⟩ := ih (k + 1) (fun i f' hi => by have := hk (i + 1) f' (by simpa using hi); rwa [show k + (i + 1) = k + 1 + i by omega] at this) (off + P.cellsOf f.type) h3 (by
            simp at hl1; omega)
          have e : cs.drop off = (cs.drop off).take (P.cellsOf f.type) ++ cs.drop (off + P.cellsOf f.type) := by
            rw [← List.drop_drop, List.take_append_drop]
          refine ⟨l1 ++ l2, by rw [e]; exact reps_append' g1 k1, ⟨l1, l2, rfl, g2, k2⟩, by rw [e, List.all_append, g3, k3]; rfl⟩
      simpa using key fs.toList 0 (fun i f hi => by simpa using hi) 0 hd (Nat.zero_le _)
    · cases hd

/-- the arguments, read -/
theorem trod_rep {r : Reach} {b0 n : Nat} {t : TypeId} {v : Value} {d : DataW H} {ps : List MemPlace} {fr : Nat} (hd : dataT P n t = true) (hval : Value.okWide P w r b0 t v) (h : DataW.Trod enc P w 0 sp true t v d ps) :
    ∃ l, typed P n t l ∧ rep (cx0 w fr) (mkD P t l) v := by
  obtain ⟨fuel, h⟩ := h
  obtain ⟨l, h1, h2, h3⟩ := trod_reps n fuel t _ _ (cx0 w fr) rfl (fun _ h => h) (fun _ => trivial) hd h
  refine ⟨l, h2, ?_⟩
  unfold mkD aggT
  cases n with
  | zero => simp [dataT] at hd
  | succ n =>
    unfold dataT at hd
    unfold Value.okWide at hval
    split at hd
    case h_5 fs ht =>
      rw [ht] at hval ⊢
      obtain ⟨cs, rfl, _⟩ := hval
      simp only [cond_true, rep]
      exact ⟨cs.toList, by simp, by simpa [Value.cells] using h1⟩
    case h_6 => cases hd
    all_goals
      rename_i ht
      rw [ht] at hval ⊢
      simp only [cond_false]
      have hcv : v.cells = #[v] := by
        cases v with
        | agg cs => simp [Cell.okWide, Cell.ok, ht] at hval
        | _ => rfl
      rw [hcv] at h1
      have hl : ∃ d, l = [d] := List.length_eq_one_iff.1 ((reps_length _ _ h1).symm.trans rfl)
      obtain ⟨d, rfl⟩ := hl
      simp only [reps] at h1
      obtain ⟨v', vs', hv, hd', _⟩ := h1
      obtain rfl : v = v' := by simpa using (List.cons.inj hv).1
      exact hd'

def typedAll (P : Program) (n : Nat) : List TypeId → List D → Prop
  | [], l => l = []
  | t :: ts, l => ∃ c r, l = mkD P t c :: r ∧ typed P n t c ∧ typedAll P n ts r

theorem trodAll_reps {r : Reach} {b0 n fr : Nat} : ∀ {ts : List TypeId} {vs : List Value} {ds : List (DataW H)} {ps : List MemPlace}, ts.all (dataT P n) = true → (∀ (j : Nat) t v, ts[j]? = some t → vs[j]? = some v → Value.okWide P w r b0 t v) →
    DataW.TrodAll enc P w 0 sp true ts vs ds ps → ∃ l, typedAll P n ts l ∧ reps (cx0 w fr) l vs
  | [], [], [], _, _, _, _ => ⟨[], rfl, by simp only [reps]⟩
  | t :: ts, v :: vs, d :: ds, ps, hd, hval, h => by
    obtain ⟨p, q, h1, h2, _⟩ := h
    simp only [List.all_cons, Bool.and_eq_true] at hd
    obtain ⟨c, g1, g2⟩ := trod_rep (fr := fr) hd.1 (hval 0 t v rfl rfl) h1
    obtain ⟨l, k1, k2⟩ := trodAll_reps hd.2 (fun j t v h h' => hval (j + 1) t v h h') h2
    exact ⟨_ :: l, ⟨c, l, rfl, g1, k1⟩, by simp only [reps]; exact ⟨_, _, rfl, g2, k2⟩⟩
  | [], _ :: _, _, _, _, _, h => h.elim
  | [], [], _ :: _, _, _, _, h => h.elim
  | _ :: _, [], _, _, _, _, h => h.elim
  | _ :: _, _ :: _, [], _, _, _, h => h.elim

/-- data that lie below stay -/
theorem trodAll_stays (hl : laidOutB P = true) {W W' : World} (hB : Below W.heap.size W W') {sp' : Nat → Bool} : ∀ {ts : List TypeId} {vs : List Value} {ds : List (DataW H)} {ps : List MemPlace}, (ts.all fun t => P.readableRec t && Nat.blt t P.types.size) = true →
    DataW.TrodAll enc P W 0 (fun _ => true) true ts vs ds ps → (∀ p ∈ ps, p.block < W.heap.size ∧ sp' p.block = true) → DataW.TrodAll enc P W' 0 sp' true ts vs ds ps
  | [], [], [], _, _, h, _ => h
  | t :: ts, v :: vs, d :: ds, ps, hr, h, hp => by
    obtain ⟨p, q, h1, h2, rfl⟩ := h
    simp only [List.all_cons, Bool.and_eq_true] at hr
    refine ⟨p, q, WideElems.Trod_stays hl hr.1.1 (Nat.le_of_ble_eq_true hr.1.2) h1 (fun x hx => hB.same (hp x (by simp [hx])).1) (fun x hx => (hp x (by simp [hx])).2), ?_, rfl⟩
    exact trodAll_stays hl hB hr.2 h2 fun x hx => hp x (by simp [hx])
  | [], _ :: _, _, _, _, h, _ => h.elim
  | [], [], _ :: _, _, _, h, _ => h.elim
  | _ :: _, [], _, _, _, h, _ => h.elim
  | _ :: _, _ :: _, [], _, _, h, _ => h.elim

/-- a law's row, off its contract -/
theorem law_contract {K : FuncId} {f : Func} {s : ChangeSpec} {apart fresh : Bool} {n : Nat} {tb : TypeId} (hl : laidOutB P = true) (hr : (f.params.toList.all fun t => P.readableRec t && Nat.blt t P.types.size) = true)
    (hd : f.params.toList.all (dataT P n) = true) (hvars : s.vars = []) (hres : f.resultTypes = #[tb]) (hb : P.underlying tb = some .bool)
    (hfn : ∀ ds : List (DataW H), ds.length = f.params.size → s.fn H ds = { results := [.lit (.bool true)], args := ds })
    (hK : ∀ l, typedAll P n f.params.toList l → CallP P K l (.bool true)) {W : World} {base : Nat} {args : Array Value} {ds gs : List (DataW H)} {before : List MemPlace}
    (hval : ∀ (j : Nat) t v, f.params[j]? = some t → args[j]? = some v → Value.okWide P W .any base t v) (hW : DataW.Whole enc P f.params.toList s.vars apart W args.toList ds gs before) :
    Calls P K args W fun e W' => ∃ v, e = .returned v ∧ s.post enc P f apart fresh false false W args v W' := by
  have hW' := hW
  obtain ⟨p, q, hA, hV, rfl, hfz, hnd⟩ := hW
  rw [hvars] at hV
  have hlen : ds.length = f.params.size := by
    have : ∀ {ts : List TypeId} {vs : List Value} {ds : List (DataW H)} {ps : List MemPlace}, DataW.TrodAll enc P W 0 (fun _ => true) true ts vs ds ps → ds.length = ts.length := by
      intro ts
      induction ts with
      | nil => intro vs ds ps h; cases vs <;> cases ds <;> first | rfl | exact h.elim
      | cons t ts ih => intro vs ds ps h; cases vs <;> cases ds <;> first | (obtain ⟨_, _, _, h2, _⟩ := h; simp [ih h2]) | exact h.elim
    simpa using this hA
  have hgs : gs = [] ∧ q = [] := by
    cases gs with
    | nil => exact ⟨rfl, hV⟩
    | cons g gs => exact hV.elim
  obtain ⟨rfl, rfl⟩ := hgs
  obtain ⟨l, h1, h2⟩ := trodAll_reps (fr := W.heap.size) hd (fun j t v h h' => hval j t v (by simpa using h) (by simpa using h')) hA
  refine ((hK l h1).2 W _ h2).mono fun e W' ⟨v, he, hk, _, hv⟩ => ⟨v, he, ?_⟩
  simp only [rep] at hv
  subst hv
  have hB := hk.below
  have hlt := hW'.lt
  have hf := hfn ds hlen
  refine ⟨ds, [], p ++ [], [], p, [], hW', ?_, ?_, ?_, ?_, fun h => by cases h⟩
  · rw [List.append_nil, hf, hres]
    exact ⟨[], [], ⟨1, by simp [DataW.trod, Value.cells, hb]⟩, rfl, rfl⟩
  · rw [List.append_nil, hf]
    exact trodAll_stays hl hB hr hA fun x hx => ⟨hlt x (by simp [hx]), by simpa using hlt x (by simp [hx])⟩
  · rw [List.append_nil, hf, hvars]
    rfl
  · exact hB.frame _
end

/-! ## What typed data are, type by type -/
theorem list_of {α : Type} {f : α → D} {g : List D → D} : ∀ (xs : List (List D)), (∀ x ∈ xs, ∃ y, g x = f y) → ∃ l : List α, xs.map g = l.map f
  | [], _ => ⟨[], rfl⟩
  | x :: xs, h => by
    obtain ⟨y, hy⟩ := h x (by simp)
    obtain ⟨l, hl⟩ := list_of xs fun x hx => h x (by simp [hx])
    exact ⟨y :: l, by simp only [List.map_cons, hy, hl]⟩

section
variable {P : Program} {n : Nat} {t : TypeId} {l : List D}
theorem mkD_one {d : D} (ha : aggT P t = false) : mkD P t [d] = d := by simp only [mkD, ha, cond_false, List.headD_cons]
theorem mkD_agg (ha : aggT P t = true) : mkD P t l = .agg l := by simp only [mkD, ha, cond_true]
theorem typed_int {k : IntKind} (hu : P.underlying t = some (.int k)) (h : typed P (n + 1) t l) : ∃ m, l = [.int k m] := by
  rw [typed, hu] at h; exact h
theorem typed_str (hu : P.underlying t = some .string) (h : typed P (n + 1) t l) : ∃ s, l = [.str s] := by
  rw [typed, hu] at h; exact h
theorem typed_list {α : Type} (f : α → D) {e : TypeId} {s : Nat} (hu : P.underlying t = some (.slice e)) (ha : aggT P t = false) (hc : P.cellsOf e = s) (hx : ∀ x, typed P n e x → ∃ y, mkD P e x = f y) (h : typed P (n + 1) t l) :
    ∃ m : List α, mkD P t l = .imm s (m.map f) 4 := by
  rw [typed, hu] at h
  obtain ⟨xs, rfl, hxs⟩ := h
  obtain ⟨m, hm⟩ := list_of (f := f) (g := mkD P e) xs fun x hx' => hx x (hxs x hx')
  exact ⟨m, by rw [mkD_one ha, hm, hc]⟩
theorem typed_one {e : TypeId} (hu : P.underlying t = some (.slice e)) (h : typed P (n + 1) t l) : ∃ d, l = [d] := by
  rw [typed, hu] at h
  obtain ⟨xs, rfl, _⟩ := h
  exact ⟨_, rfl⟩
theorem typed_struct {fs : Array Field} (hu : P.underlying t = some (.struct fs)) (h : typed P (n + 1) t l) : typedL (typed P n) (fs.toList.map (·.type)) l := by
  rw [typed, hu] at h; exact h
theorem typedL_cons {p : TypeId → List D → Prop} {ts : List TypeId} (h : typedL p (t :: ts) l) : ∃ l1 l2, l = l1 ++ l2 ∧ p t l1 ∧ typedL p ts l2 := h
theorem typedL_nil {p : TypeId → List D → Prop} (h : typedL p [] l) : l = [] := h
theorem typedAll_cons {ts : List TypeId} (h : typedAll P n (t :: ts) l) : ∃ c r, l = mkD P t c :: r ∧ typed P n t c ∧ typedAll P n ts r := h
theorem typedAll_nil (h : typedAll P n [] l) : l = [] := h
end
end Go.Tm
end

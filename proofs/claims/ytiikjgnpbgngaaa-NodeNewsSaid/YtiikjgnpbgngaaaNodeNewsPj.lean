/- What the bits of two quorums tell, in plain words. -/
import Derived.WideKeyArgs
import Derived.ChangeSame
import Derived.ChangeArms
import Derived.OpenShut
import Derived.Carry
import Derived.Test.YtiikjgnpbgngaaaNodeNewsPe
import Derived.Test.YtiikjgnpbgngaaaNodeNewsPg
import Derived.Test.YtiikjgnpbgngaaaNodeNewsPh
section
namespace Go.Proofs
open Go.Tm

/-- rising lists of numbers up to 5, from behind a number on -/
def risesP : Int → List Int → Bool
  | _, [] => true
  | last, n :: r => decide (last < n) && decide (n < 6) && risesP n r
def gen : Nat → Int → List (List Int)
  | 0, _ => [[]]
  | f + 1, lo => gen f (lo + 1) ++ (gen f (lo + 1)).map fun r => (lo + 1) :: r

theorem nil_gen : ∀ (f : Nat) (lo : Int), [] ∈ gen f lo
  | 0, _ => by simp [gen]
  | f + 1, lo => by simp only [gen, List.mem_append]; exact .inl (nil_gen f _)

theorem mem_gen : ∀ (f : Nat) (lo : Int) (l : List Int), 5 - lo ≤ f → risesP lo l = true → l ∈ gen f lo
  | f, lo, [], _, _ => nil_gen f lo
  | 0, lo, x :: r, hf, h => by
    simp only [risesP, Bool.and_eq_true, decide_eq_true_eq] at h
    omega
  | f + 1, lo, x :: r, hf, h => by
    have h' := h
    simp only [risesP, Bool.and_eq_true, decide_eq_true_eq] at h'
    simp only [gen, List.mem_append, List.mem_map]
    by_cases hx : x = lo + 1
    · subst hx
      exact .inr ⟨r, mem_gen f (lo + 1) r (by omega) h'.2, rfl⟩
    · refine .inl (mem_gen f (lo + 1) (x :: r) (by omega) ?_)
      simp only [risesP, Bool.and_eq_true, decide_eq_true_eq]
      exact ⟨⟨by omega, h'.1.2⟩, h'.2⟩

def setB (l : List Int) : Int := l.foldl (fun s n => bif decide (n ≥ 0) && decide (n < 6) then bitw .or .u64 s (shw true .u64 1 n) else s) 0
def hasI (l : List Int) (n : Int) : Bool := l.any fun x => x == n
def withinI (l all : List Int) : Bool := l.all fun n => hasI all n

theorem bits_gen : ((gen 6 (-1)).all fun r => (gen 6 (-1)).all fun m => (bitw .andNot .u64 (setB m) (setB r) == 0) == withinI m r) = true := by decide +kernel

theorem bits_within {r m : List Int} (hr : risesP (-1) r = true) (hm : risesP (-1) m = true) : (bitw .andNot .u64 (setB m) (setB r) == 0) = withinI m r := by
  have h := List.all_eq_true.1 (List.all_eq_true.1 bits_gen r (mem_gen 6 (-1) r (by omega) hr)) m (mem_gen 6 (-1) m (by omega) hm)
  exact eq_of_beq h
end Go.Proofs
end
section
/- Plain facts about groups, quorums, and comparing a thing with itself. -/


namespace Go.Proofs
open Go.Tm
set_option linter.unusedSimpArgs false

theorem index_loop (v : Int) (l : List Int) : ∀ n : Nat, (v ∈ l → ∃ k : Nat, m_slices_Index_int_int_loop1 v l n = some (.inl (k : Int))) ∧ (v ∉ l → m_slices_Index_int_int_loop1 v l n = some (.inr ())) := by
  induction l with
  | nil => intro n; exact ⟨(fun h => by cases h), fun _ => rfl⟩
  | cons y l ih =>
    intro n
    rw [m_slices_Index_int_int_loop1]
    by_cases h : v = y
    · rw [if_pos h]
      exact ⟨fun _ => ⟨n, rfl⟩, fun hn => absurd (h ▸ List.mem_cons_self) hn⟩
    · rw [if_neg h]
      refine ⟨fun hv => (ih (n + 1)).1 ?_, fun hv => (ih (n + 1)).2 fun hh => hv (List.mem_cons_of_mem _ hh)⟩
      rcases List.mem_cons.1 hv with hv | hv
      · exact absurd hv h
      · exact hv
theorem has_eq (l : List Int) (v : Int) : m_quorum_Has l v = some (decide (v ∈ l)) := by
  rw [m_quorum_Has, m_slices_Contains_int_int, m_slices_Index_int_int]
  by_cases h : v ∈ l
  · obtain ⟨k, hk⟩ := (index_loop v l 0).1 h
    rw [hk]
    simp [h]
  · rw [(index_loop v l 0).2 h]
    simp [h]
theorem hasR_loop (v : Int) (l : List Int) : m_towncrierref06_Has_loop1 v l = some (if v ∈ l then .inl true else .inr ()) := by
  induction l with
  | nil => rfl
  | cons y l ih =>
    rw [m_towncrierref06_Has_loop1]
    by_cases h : y = v
    · rw [if_pos h, if_pos (by rw [h]; exact List.mem_cons_self)]
    · rw [if_neg h, ih]
      have : (v ∈ y :: l) ↔ v ∈ l := by simp [Ne.symm h]
      simp only [this]
theorem hasR_eq (l : List Int) (v : Int) : m_towncrierref06_Has l v = some (decide (v ∈ l)) := by
  rw [m_towncrierref06_Has, hasR_loop]
  by_cases h : v ∈ l <;> simp [h]
theorem hasI_iff (l : List Int) (v : Int) : hasI l v = decide (v ∈ l) := by
  rw [Bool.eq_iff_iff]; simp [hasI]
theorem within_loop (b : List Int) (l : List Int) : m_towncrierref06_Within_loop1 b l = some (if withinI l b = true then .inr () else .inl false) := by
  induction l with
  | nil => rfl
  | cons y l ih =>
    rw [m_towncrierref06_Within_loop1, hasR_eq]
    simp only [Option.bind_some]
    have e : withinI (y :: l) b = (decide (y ∈ b) && withinI l b) := by simp [withinI, hasI_iff]
    rw [e, ih]
    by_cases h : y ∈ b <;> simp [h]
theorem within_eq (l b : List Int) : m_towncrierref06_Within l b = some (withinI l b) := by
  rw [m_towncrierref06_Within, within_loop]
  by_cases h : withinI l b = true <;> simp [h]

theorem rises_lt : ∀ (l : List Int) (k : Int), risesP k l = true → ∀ x ∈ l, k < x ∧ x < 6 := by
  intro l
  induction l with
  | nil => intro _ _ x hx; cases hx
  | cons y l ih =>
    intro k h x hx
    simp only [risesP, Bool.and_eq_true, decide_eq_true_eq] at h
    rcases List.mem_cons.1 hx with rfl | hx
    · exact h.1
    · have := ih y h.2 x hx
      omega
theorem qcheck_loop (l : List Int) : ∀ n, m_quorum_Check_loop1 l n = some (if risesP n l = true then .inr (l.getLastD n) else .inl 60) := by
  induction l with
  | nil => intro n; simp [m_quorum_Check_loop1, risesP]
  | cons y l ih =>
    intro n
    rw [m_quorum_Check_loop1]
    by_cases h : (y ≤ n) ∨ (y ≥ 6)
    · rw [if_pos h, if_neg (by simp only [risesP, Bool.and_eq_true, decide_eq_true_eq]; omega)]
    · rw [if_neg h, ih]
      have : risesP n (y :: l) = risesP y l := by
        simp only [risesP]
        have h1 : decide (n < y) = true := by simp; omega
        have h2 : decide (y < 6) = true := by simp; omega
        simp [h1, h2]
      rw [this, List.getLastD_cons]
def qerr (l : List Int) : Int := if l.length > 6 then 4 else if risesP (-1) l = true ∧ l ≠ [] then 0 else 60
theorem qcheck_eq (l : List Int) : m_quorum_Check l = some (qerr l) := by
  rw [m_quorum_Check]
  unfold qerr
  by_cases h : (l.length : Int) > 6
  · rw [if_pos h, if_pos (by omega)]
  · rw [if_neg h, if_neg (by omega), qcheck_loop]
    by_cases hr : risesP (-1) l = true
    · rw [if_pos hr]
      cases l with
      | nil => simp
      | cons y l =>
        have hl := (rises_lt (y :: l) (-1) hr ((y :: l).getLastD (-1)) (by rw [List.getLastD_eq_getLast?, List.getLast?_eq_some_getLast (by simp)]; exact List.getLast_mem (by simp))).1
        simp only [Option.bind_some, ne_eq, reduceCtorEq, not_false_eq_true, and_true, if_pos hr]
        rw [if_neg (by omega)]
    · rw [if_neg hr]
      simp [hr]
theorem may_loop (l : List Int) : ∀ (pre : List Int) (k : Int), (pre = [] ∧ k = -1 ∨ 0 ≤ k ∧ pre.getLast? = some k) → m_towncrierref06_May_loop1 (pre ++ l) l pre.length = some (if risesP k l = true then .inr () else .inl false) := by
  induction l with
  | nil => intro pre k _; simp [m_towncrierref06_May_loop1, risesP]
  | cons y l ih =>
    intro pre k hk
    rw [m_towncrierref06_May_loop1]
    have hc : (((y < 0) ∨ (y ≥ 6)) ∨ (((pre.length : Int) > 0) ∧ (y ≤ ((pre ++ y :: l).getD (pre.length - 1) default)))) ↔ ¬ (k < y ∧ y < 6) := by
      rcases hk with ⟨rfl, rfl⟩ | ⟨h0, hl⟩
      · simp; omega
      · have hne : pre ≠ [] := by rintro rfl; simp at hl
        have hp : 0 < pre.length := List.length_pos_iff.2 hne
        have hg : (pre ++ y :: l).getD (pre.length - 1) default = k := by
          rw [List.getD_eq_getElem?_getD, List.getElem?_append_left (by omega), ← List.getLast?_eq_getElem?, hl]; rfl
        rw [hg]; omega
    by_cases h : k < y ∧ y < 6
    · rw [if_neg (fun hh => hc.1 hh h)]
      have e : risesP k (y :: l) = risesP y l := by simp [risesP, h.1, h.2]
      have := ih (pre ++ [y]) y (.inr ⟨by rcases hk with ⟨_, rfl⟩ | ⟨h0, _⟩ <;> omega, by simp⟩)
      rw [List.append_assoc, List.singleton_append, List.length_append, List.length_singleton] at this
      rw [e]; exact this
    · rw [if_pos (hc.2 h), if_neg]
      simp only [risesP, Bool.and_eq_true, decide_eq_true_eq]
      exact fun hh => h hh.1
theorem may_eq (l : List Int) : m_towncrierref06_May l = some (risesP (-1) l && decide (1 ≤ l.length) && decide (l.length ≤ 6)) := by
  rw [m_towncrierref06_May]
  have := may_loop l [] (-1) (.inl ⟨rfl, rfl⟩)
  rw [List.nil_append, List.length_nil] at this
  rw [this]
  by_cases h : risesP (-1) l = true
  · simp only [h, if_true, Option.bind_some, Bool.true_and]
    congr 1
    have e1 : decide ((l.length : Int) ≥ 1) = decide (1 ≤ l.length) := decide_eq_decide.2 (by omega)
    have e2 : decide ((l.length : Int) ≤ 6) = decide (l.length ≤ 6) := decide_eq_decide.2 (by omega)
    rw [e1, e2]
  · simp [h]
theorem qcheckR_eq (l : List Int) : m_towncrierref06_Check l = some (qerr l) := by
  rw [m_towncrierref06_Check, may_eq]
  unfold qerr
  by_cases h : (l.length : Int) > 6
  · rw [if_pos h, if_pos (by omega)]
  · rw [if_neg h, if_neg (by omega)]
    simp only [Option.bind_some]
    have h6 : decide (l.length ≤ 6) = true := by simp; omega
    rw [h6, Bool.and_true]
    by_cases hr : risesP (-1) l = true
    · cases l with
      | nil => simp
      | cons y l => simp [hr]
    · simp [hr]
theorem set_loop (l : List Int) : ∀ s, m_quorum_set_loop1 l s = some (l.foldl (fun s n => bif decide (n ≥ 0) && decide (n < 6) then bitw .or .u64 s (shw true .u64 1 n) else s) s) := by
  induction l with
  | nil => intro s; rfl
  | cons y l ih =>
    intro s
    rw [m_quorum_set_loop1, List.foldl_cons]
    by_cases h0 : y ≥ 0
    · by_cases h6 : y < 6
      · have : 0 ≤ y := h0
        simp [h0, h6, this, ih]
      · simp [h0, h6, ih]
    · simp [h0, ih]
theorem set_eq (l : List Int) : m_quorum_set l = some (setB l) := by
  rw [m_quorum_set, set_loop]; rfl
theorem qerr_zero {l : List Int} (h : qerr l = 0) : l.length ≤ 6 ∧ risesP (-1) l = true ∧ l ≠ [] := by
  unfold qerr at h
  split at h
  · cases h
  · split at h
    · rename_i h1 h2; exact ⟨by omega, h2⟩
    · cases h
/-- what is wrong with a group -/
def gerr (g : TGroup) : Int := if qerr g.Roster ≠ 0 then qerr g.Roster else if qerr g.Members ≠ 0 then qerr g.Members else if withinI g.Members g.Roster = true then 0 else 60
theorem group_eq (g : TGroup) : m_quorum_CheckGroup g = some (gerr g) := by
  rw [m_quorum_CheckGroup, qcheck_eq, qcheck_eq, set_eq, set_eq]
  unfold gerr
  simp only [Option.bind_some]
  by_cases h1 : qerr g.Roster = 0
  · by_cases h2 : qerr g.Members = 0
    · have hb := bits_within (qerr_zero h1).2.1 (qerr_zero h2).2.1
      by_cases hw : withinI g.Members g.Roster = true
      · rw [hw, beq_iff_eq] at hb
        simp [h1, h2, hb, hw]
      · rw [Bool.not_eq_true] at hw
        rw [hw, beq_eq_false_iff_ne] at hb
        simp [h1, h2, hb, hw]
    · simp [h1, h2]
  · simp [h1]
theorem groupR_eq (g : TGroup) : m_towncrierref06_CheckGroup g = some (gerr g) := by
  rw [m_towncrierref06_CheckGroup, qcheckR_eq, qcheckR_eq, m_towncrierref06_MayGroup, may_eq, may_eq, within_eq]
  unfold gerr
  simp only [Option.bind_some]
  by_cases h1 : qerr g.Roster = 0
  · have a1 := qerr_zero h1
    have l1 : 1 ≤ g.Roster.length := List.length_pos_iff.2 a1.2.2
    by_cases h2 : qerr g.Members = 0
    · have a2 := qerr_zero h2
      have l2 : 1 ≤ g.Members.length := List.length_pos_iff.2 a2.2.2
      by_cases hw : withinI g.Members g.Roster = true
      · simp [h1, h2, a1.1, a1.2.1, l1, a2.1, a2.2.1, l2, hw]
      · simp [h1, h2, a1.1, a1.2.1, l1, a2.1, a2.2.1, l2, hw]
    · simp [h1, h2]
  · simp [h1]

theorem self_towncrierref01_SameInts_loop1 (l : List Int) : ∀ pre : List Int, m_towncrierref01_SameInts_loop1 (pre ++ l) l pre.length = some (.inr ()) := by
  induction l with
  | nil => intro pre; rfl
  | cons y l ih =>
    intro pre
    have hg : (pre ++ y :: l).getD pre.length default = y := by simp
    have hi := ih (pre ++ [y])
    rw [List.append_assoc, List.singleton_append] at hi
    rw [List.length_append, List.length_singleton] at hi
    rw [m_towncrierref01_SameInts_loop1, if_pos (by simp)]
    simp only [hg]
    simp [hg, hi]
theorem self_towncrierref01_SameTexts_loop1 (l : List (List UInt8)) : ∀ pre : List (List UInt8), m_towncrierref01_SameTexts_loop1 (pre ++ l) l pre.length = some (.inr ()) := by
  induction l with
  | nil => intro pre; rfl
  | cons y l ih =>
    intro pre
    have hg : (pre ++ y :: l).getD pre.length default = y := by simp
    have hi := ih (pre ++ [y])
    rw [List.append_assoc, List.singleton_append] at hi
    rw [List.length_append, List.length_singleton] at hi
    rw [m_towncrierref01_SameTexts_loop1, if_pos (by simp)]
    simp only [hg]
    simp [hg, hi]
theorem self_towncrierref06_same_loop1 (l : List Int) : ∀ pre : List Int, m_towncrierref06_same_loop1 (pre ++ l) l pre.length = some (.inr ()) := by
  induction l with
  | nil => intro pre; rfl
  | cons y l ih =>
    intro pre
    have hg : (pre ++ y :: l).getD pre.length default = y := by simp
    have hi := ih (pre ++ [y])
    rw [List.append_assoc, List.singleton_append] at hi
    rw [List.length_append, List.length_singleton] at hi
    rw [m_towncrierref06_same_loop1, if_pos (by simp)]
    simp only [hg]
    simp [hg, hi]
theorem self_towncrierref11_SameVotes_loop1 (l : List TSeen) : ∀ pre : List TSeen, m_towncrierref11_SameVotes_loop1 (pre ++ l) l pre.length = some (.inr ()) := by
  induction l with
  | nil => intro pre; rfl
  | cons y l ih =>
    intro pre
    have hg : (pre ++ y :: l).getD pre.length default = y := by simp
    have hi := ih (pre ++ [y])
    rw [List.append_assoc, List.singleton_append] at hi
    rw [List.length_append, List.length_singleton] at hi
    rw [m_towncrierref11_SameVotes_loop1, if_pos (by simp)]
    simp only [hg]
    simp [hg, hi]
theorem self_towncrierref25_SameMail_loop1 (l : List TMail) : ∀ pre : List TMail, m_towncrierref25_SameMail_loop1 (pre ++ l) l pre.length = some (.inr ()) := by
  induction l with
  | nil => intro pre; rfl
  | cons y l ih =>
    intro pre
    have hg : (pre ++ y :: l).getD pre.length default = y := by simp
    have hi := ih (pre ++ [y])
    rw [List.append_assoc, List.singleton_append] at hi
    rw [List.length_append, List.length_singleton] at hi
    rw [m_towncrierref25_SameMail_loop1, if_pos (by simp)]
    simp only [hg]
    simp [hg, hi]
theorem self_towncrierref08_Same_loop1 (a : TAttempt) (l : List TPromise) : ∀ pre : List TPromise, a.Promises = pre ++ l → m_towncrierref08_Same_loop1 a l pre.length = some (.inr ()) := by
  induction l with
  | nil => intro pre _; rfl
  | cons y l ih =>
    intro pre h
    have hg : (pre ++ y :: l).getD pre.length default = y := by simp
    have hi := ih (pre ++ [y]) (by rw [h]; simp)
    rw [List.length_append, List.length_singleton] at hi
    rw [m_towncrierref08_Same_loop1, if_pos (by rw [h]; simp)]
    simp only [h, hg]
    simp [hg, hi]
theorem self_towncrierref03_Same_loop1 (a : TDisk) (l : List TPut) : ∀ pre : List TPut, a.Wait = pre ++ l → m_towncrierref03_Same_loop1 a l pre.length = some (.inr ()) := by
  induction l with
  | nil => intro pre _; rfl
  | cons y l ih =>
    intro pre h
    have hg : (pre ++ y :: l).getD pre.length default = y := by simp
    have hi := ih (pre ++ [y]) (by rw [h]; simp)
    rw [List.length_append, List.length_singleton] at hi
    rw [m_towncrierref03_Same_loop1, if_pos (by rw [h]; simp)]
    simp only [h, hg]
    simp [hg, hi]
theorem self_ints (l : List Int) : m_towncrierref01_SameInts l l = some true := by
  have := self_towncrierref01_SameInts_loop1 l []
  rw [List.nil_append, List.length_nil] at this
  rw [m_towncrierref01_SameInts, this]; simp
theorem self_texts (l : List (List UInt8)) : m_towncrierref01_SameTexts l l = some true := by
  have := self_towncrierref01_SameTexts_loop1 l []
  rw [List.nil_append, List.length_nil] at this
  rw [m_towncrierref01_SameTexts, this]; simp
theorem self_same6 (l : List Int) : m_towncrierref06_same l l = some true := by
  have := self_towncrierref06_same_loop1 l []
  rw [List.nil_append, List.length_nil] at this
  rw [m_towncrierref06_same, this]; simp
theorem self_votes (l : List TSeen) : m_towncrierref11_SameVotes l l = some true := by
  have := self_towncrierref11_SameVotes_loop1 l []
  rw [List.nil_append, List.length_nil] at this
  rw [m_towncrierref11_SameVotes, this]; simp
theorem self_mail (l : List TMail) : m_towncrierref25_SameMail l l = some true := by
  have := self_towncrierref25_SameMail_loop1 l []
  rw [List.nil_append, List.length_nil] at this
  rw [m_towncrierref25_SameMail, this]; simp
theorem self_attempt (a : TAttempt) : m_towncrierref08_Same a a = some true := by
  have := self_towncrierref08_Same_loop1 a a.Promises [] (by simp)
  rw [List.length_nil] at this
  rw [m_towncrierref08_Same, self_ints, self_ints, this]; simp
theorem self_disk (a : TDisk) : m_towncrierref03_Same a a = some true := by
  have := self_towncrierref03_Same_loop1 a a.Wait [] (by simp)
  rw [List.length_nil] at this
  rw [m_towncrierref03_Same, this]; simp
theorem self_group (g : TGroup) : m_towncrierref06_SameGroup g g = some true := by
  rw [m_towncrierref06_SameGroup, self_same6, self_same6]; simp
theorem self_seat (s : TSeat) : m_towncrierref25_Same s s = some true := by
  rw [m_towncrierref25_Same, self_group, self_texts, self_votes, self_attempt, self_texts]; simp

theorem self_towncrierref26_SameGroups_loop1 (l : List TGroup) : ∀ pre : List TGroup, m_towncrierref26_SameGroups_loop1 (pre ++ l) l pre.length = some (.inr ()) := by
  induction l with
  | nil => intro pre; rfl
  | cons y l ih =>
    intro pre
    have hg : (pre ++ y :: l).getD pre.length default = y := by simp
    have hi := ih (pre ++ [y])
    rw [List.append_assoc, List.singleton_append] at hi
    rw [List.length_append, List.length_singleton] at hi
    rw [m_towncrierref26_SameGroups_loop1, if_pos (by simp)]
    simp only [hg]
    simp [hg, self_group, hi]
theorem self_groups (l : List TGroup) : m_towncrierref26_SameGroups l l = some true := by
  have := self_towncrierref26_SameGroups_loop1 l []
  rw [List.nil_append, List.length_nil] at this
  rw [m_towncrierref26_SameGroups, this]; simp
end Go.Proofs
end
section
/- The law NodeNews in plain Lean. -/


namespace Go.Proofs
open Go.Tm
set_option linter.unusedSimpArgs false

theorem bgroups_loop (l : List TGroup) : m_bell_groups_loop1 l = m_towncrierref26_groups_loop1 l := by
  induction l with
  | nil => rfl
  | cons y l ih => rw [m_bell_groups_loop1, m_towncrierref26_groups_loop1, group_eq, groupR_eq, ih]
theorem bgroups_eq (l : List TGroup) : m_bell_groups l = m_towncrierref26_groups l := by
  rw [m_bell_groups, m_towncrierref26_groups, bgroups_loop]
theorem bgroups_tot (l : List TGroup) : ∃ v, m_towncrierref26_groups l = some v := by
  have key : ∀ l, ∃ v, m_towncrierref26_groups_loop1 l = some v := by
    intro l
    induction l with
    | nil => exact ⟨_, rfl⟩
    | cons y l ih =>
      rw [m_towncrierref26_groups_loop1, groupR_eq]
      simp only [Option.bind_some]
      split
      · exact ⟨_, rfl⟩
      · exact ih
  rw [m_towncrierref26_groups]
  split
  · exact ⟨_, rfl⟩
  · split
    · exact ⟨_, rfl⟩
    · obtain ⟨v, hv⟩ := key l
      rw [hv]
      cases v <;> exact ⟨_, rfl⟩
theorem seatTwin0 (a i : Int) (g : TGroup) : m_seat_Twin ⟨a, i, g, [], [], ⟨0, 0, [], [], [], [], []⟩, [], 0⟩ = Option.bind (m_towncrierref06_TwinGroup g) fun v => some ⟨a, i, v, [], [], ⟨0, 0, [], [], [], [], []⟩, [], 0⟩ := by
  rw [m_seat_Twin, m_towncrierref06_TwinGroup]
  simp only [m_attempt_Twin, m_slices_Clone_int_int, m_slices_Clone_string_string, m_slices_Clone_Seen_Seen, m_slices_Clone_Promise_Promise, List.length_nil]
  by_cases h3 : g.Roster.length < 1000000 <;> by_cases h4 : g.Members.length < 1000000 <;> simp [h3, h4]
theorem seatNew_eq (a i : Int) (g : TGroup) : m_seat_New a i g = m_towncrierref25_New a i g := by
  rw [m_seat_New, m_towncrierref25_New, group_eq, groupR_eq, has_eq, hasR_eq, m_towncrierref05_Node, seatTwin0]
  by_cases h : (((a < 0) ∨ (a ≥ 6)) ∨ (i < 0)) ∨ (i ≥ 4)
  · rw [if_pos h]
    simp only [Option.bind_some]
    rw [if_pos (by simp only [Bool.and_eq_true, decide_eq_true_eq]; omega)]
  · rw [if_neg h]
    have ha1 : a ≥ 0 := by omega
    have ha2 : a < 6 := by omega
    have hi1 : ¬ i < 0 := by omega
    have hi2 : ¬ i ≥ 4 := by omega
    by_cases h1 : gerr g = 0
    · by_cases h2 : a ∈ g.Roster
      · cases ht : m_towncrierref06_TwinGroup g <;> simp only [Option.bind_some, ha1, ha2, hi1, hi2, h1, h2] <;> simp
      · simp only [Option.bind_some, ha1, ha2, hi1, hi2, h1, h2]; simp
    · simp only [Option.bind_some, ha1, ha2, hi1, hi2, h1]; simp [h1]
theorem seatNew_tot (a i : Int) (g : TGroup) (h : g.Roster.length < 1000000 ∧ g.Members.length < 1000000) : ∃ v, m_towncrierref25_New a i g = some v := by
  rw [m_towncrierref25_New, groupR_eq, hasR_eq, m_towncrierref05_Node, m_towncrierref06_TwinGroup]
  simp only [Option.bind_some, h.1, h.2, if_true]
  split
  · exact ⟨_, rfl⟩
  · by_cases h1 : gerr g = 0
    · by_cases h2 : a ∈ g.Roster <;> simp [h1, h2]
    · simp [h1]
theorem own_eq (b : TBell) (x y : List TSeat) (r : List TRecord) (m : List TMail) (i : Int) : m_bell_bell_own ⟨b, r, m⟩ i = m_towncrierref26_Own b i := by
  rw [m_bell_bell_own, m_towncrierref26_Own, has_eq, hasR_eq]
theorem own_tot (b : TBell) (i : Int) : ∃ v, m_towncrierref26_Own b i = some v := by
  rw [m_towncrierref26_Own, hasR_eq, if_pos (fun h => ⟨h.1, h.2⟩)]
  split <;> exact ⟨_, rfl⟩
theorem twinG_loop (l : List TGroup) : ∀ acc, m_bell_Twin_loop1 l acc = m_towncrierref26_Twin_loop1 l acc := by
  induction l with
  | nil => intro _; rfl
  | cons y l ih =>
    intro acc
    rw [m_bell_Twin_loop1_c, m_towncrierref26_Twin_loop1_c, m_slices_Clone_int_int, m_slices_Clone_int_int, m_towncrierref06_TwinGroup]
    by_cases h3 : y.Roster.length < 1000000 <;> by_cases h4 : y.Members.length < 1000000 <;> simp [h3, h4, ih]
theorem twinG_tot (l : List TGroup) : ∀ acc, acc.length + l.length < 1000000 → (∀ g ∈ l, g.Roster.length < 1000000 ∧ g.Members.length < 1000000) → m_towncrierref26_Twin_loop1 l acc = some (acc ++ l) := by
  induction l with
  | nil => intro acc _ _; simp [m_towncrierref26_Twin_loop1_n]
  | cons y l ih =>
    intro acc h1 h2
    simp only [List.length_cons] at h1
    have hy := h2 y List.mem_cons_self
    rw [m_towncrierref26_Twin_loop1_c, m_towncrierref06_TwinGroup, if_pos hy.1, if_pos hy.2]
    simp only [Option.bind_some]
    rw [if_pos (by simp; omega), ih _ (by simp; omega) fun g hg => h2 g (List.mem_cons_of_mem _ hg)]
    simp
theorem twin_eq (a : Int) (l : List TGroup) (h1 : l.length < 1000000) (h2 : ∀ g ∈ l, g.Roster.length < 1000000 ∧ g.Members.length < 1000000) : m_bell_Twin ⟨a, l, [], []⟩ = some ⟨a, l, [], []⟩ ∧ m_towncrierref26_Twin ⟨a, l, [], []⟩ = some ⟨a, l, [], []⟩ := by
  have e : m_slices_Clone_Time_Time [] = some [] := rfl
  refine ⟨?_, ?_⟩
  · rw [m_bell_Twin, e, twinG_loop, twinG_tot l [] (by simpa using h1) h2]
    simp [m_bell_Twin_loop2_n]
  · rw [m_towncrierref26_Twin, if_pos (by simp), twinG_tot l [] (by simpa using h1) h2]
    simp [m_towncrierref26_Twin_loop2_n]
theorem new_loop (a : Int) (b : TBell) (l : List TGroup) : ∀ n acc, m_bell_New_loop1 a b l n acc = m_towncrierref26_New_loop1 a b l n acc := by
  induction l with
  | nil => intro _ _; rfl
  | cons y l ih =>
    intro n acc
    rw [m_bell_New_loop1_c, m_towncrierref26_New_loop1_c, own_eq _ [] [], seatNew_eq]
    simp only [ih]
theorem new_tot (a : Int) (b : TBell) (l : List TGroup) : ∀ n acc, acc.length + l.length < 1000000 → (∀ g ∈ l, g.Roster.length < 1000000 ∧ g.Members.length < 1000000) → ∃ v, m_towncrierref26_New_loop1 a b l n acc = some v := by
  induction l with
  | nil => intro n acc _ _; exact ⟨_, rfl⟩
  | cons y l ih =>
    intro n acc h1 h2
    simp only [List.length_cons] at h1
    rw [m_towncrierref26_New_loop1_c]
    obtain ⟨v, hv⟩ := own_tot ⟨b.Me, b.All, acc, b.Times⟩ (n : Int)
    obtain ⟨u, hu⟩ := seatNew_tot a (n : Int) y (h2 y List.mem_cons_self)
    have hl : acc.length + [u.1].length < 1000000 := by simp; omega
    simp only [hv, hu, Option.bind_some, hl, if_true]
    by_cases hvt : v = true
    · simp only [hvt, if_true, Option.bind_some]
      exact ih _ _ (by simp; omega) fun g hg => h2 g (List.mem_cons_of_mem _ hg)
    · simp only [hvt, if_false, Option.bind_some]
      exact ih _ _ (by omega) fun g hg => h2 g (List.mem_cons_of_mem _ hg)
theorem bellNew_eq (a : Int) (l : List TGroup) (h1 : l.length < 1000000) (h2 : ∀ g ∈ l, g.Roster.length < 1000000 ∧ g.Members.length < 1000000) : m_bell_New a l = m_towncrierref26_New a l ∧ ∃ v, m_towncrierref26_New a l = some v := by
  obtain ⟨t1, t2⟩ := twin_eq a l h1 h2
  have e : m_bell_New a l = m_towncrierref26_New a l := by
    rw [m_bell_New, m_towncrierref26_New, bgroups_eq, t1, t2, m_towncrierref05_Node]
    simp only [Option.bind_some, new_loop]
    by_cases h : a < 0 ∨ a ≥ 6
    · rw [if_pos h, if_pos (by simp only [Bool.and_eq_true, decide_eq_true_eq]; omega)]
    · rw [if_neg h, if_neg (by simp only [Bool.and_eq_true, decide_eq_true_eq]; omega)]
  refine ⟨e, ?_⟩
  obtain ⟨v, hv⟩ := bgroups_tot l
  obtain ⟨u, hu⟩ := new_tot a ⟨a, l, [], []⟩ l 0 [] (by simpa using h1) h2
  rw [m_towncrierref26_New, t2, m_towncrierref05_Node, hv]
  simp only [Option.bind_some, hu]
  split
  · exact ⟨_, rfl⟩
  · split <;> exact ⟨_, rfl⟩
theorem self_seats (b : TBell) (l : List TSeat) : ∀ pre : List TSeat, b.Seats = pre ++ l → m_towncrierref26_Same_loop1 b l pre.length = some (.inr ()) := by
  induction l with
  | nil => intro pre _; rfl
  | cons y l ih =>
    intro pre h
    have hg : (pre ++ y :: l).getD pre.length default = y := by simp
    have hi := ih (pre ++ [y]) (by rw [h]; simp)
    rw [List.length_append, List.length_singleton] at hi
    rw [m_towncrierref26_Same_loop1, if_pos (by rw [h]; simp)]
    simp only [h, hg, self_seat]
    simp [hi]
theorem self_times (b : TBell) (l : List TTime) : ∀ pre : List TTime, b.Times = pre ++ l → m_towncrierref26_Same_loop2 b l pre.length = some (.inr ()) := by
  induction l with
  | nil => intro pre _; rfl
  | cons y l ih =>
    intro pre h
    have hg : (pre ++ y :: l).getD pre.length default = y := by simp
    have hi := ih (pre ++ [y]) (by rw [h]; simp)
    rw [List.length_append, List.length_singleton] at hi
    rw [m_towncrierref26_Same_loop2, if_pos (by rw [h]; simp)]
    simp only [h, hg]
    simp [hi]
theorem self_bell (b : TBell) : m_towncrierref26_Same b b = some true := by
  have h1 := self_seats b b.Seats [] (by simp)
  have h2 := self_times b b.Times [] (by simp)
  rw [List.length_nil] at h1 h2
  rw [m_towncrierref26_Same, self_groups, h1, h2]; simp
theorem self_node (n : TNode) : m_towncrierref27_Same n n = some true := by
  rw [m_towncrierref27_Same, self_bell, self_disk, self_mail]; simp
theorem great_loop2 (l : List TGroup) : ∀ n, (∃ v, m_towncrierref26_Great_loop2 l n = some v) ∧ (m_towncrierref26_Great_loop2 l n = some (.inr ()) → n + l.length ≤ 20 → ∀ g ∈ l, g.Roster.length ≤ 100 ∧ g.Members.length ≤ 100) := by
  induction l with
  | nil => intro n; exact ⟨⟨_, rfl⟩, fun _ _ g hg => by cases hg⟩
  | cons y l ih =>
    intro n
    rw [m_towncrierref26_Great_loop2]
    obtain ⟨i1, i2⟩ := ih (n + 1)
    by_cases hn : (n : Int) < 20
    · rw [if_pos hn]
      by_cases hy : (((y.Roster).length : Int) > 100) ∨ (((y.Members).length : Int) > 100)
      · rw [if_pos hy]; exact ⟨⟨_, rfl⟩, fun h => by cases h⟩
      · rw [if_neg hy]
        refine ⟨i1, fun h hl g hg => ?_⟩
        rcases List.mem_cons.1 hg with rfl | hg
        · omega
        · exact i2 h (by simp only [List.length_cons] at hl; omega) g hg
    · rw [if_neg hn]
      exact ⟨⟨_, rfl⟩, fun _ hl => by simp only [List.length_cons] at hl; omega⟩
theorem nodeNews_law (a : Int) (l : List TGroup) : m_towncrierlaw27_NodeNews a l = some true := by
  rw [m_towncrierlaw27_NodeNews]
  have hg : ∃ b, m_towncrierref26_Great ⟨0, l, [], []⟩ = some b ∧ (b = false → l.length ≤ 10 ∧ ∀ g ∈ l, g.Roster.length ≤ 100 ∧ g.Members.length ≤ 100) := by
    obtain ⟨⟨v, hv⟩, h2⟩ := great_loop2 l 0
    rw [m_towncrierref26_Great]
    have e : m_towncrierref26_Great_loop1 [] 0 0 = some (.inr 0) := rfl
    simp only [e, Option.bind_some, hv]
    rcases v with v | ⟨⟩
    · refine ⟨v, rfl, fun hb => ?_⟩
      exfalso
      have key : ∀ (l : List TGroup) (n : Nat) (v : Bool), m_towncrierref26_Great_loop2 l n = some (.inl v) → v = true := by
        intro l
        induction l with
        | nil => intro n v h; cases h
        | cons y l ih =>
          intro n v h
          rw [m_towncrierref26_Great_loop2] at h
          split at h
          · split at h
            · cases h; rfl
            · exact ih _ _ h
          · cases h
      rw [key l 0 v hv] at hb; cases hb
    · refine ⟨_, rfl, fun hb => ?_⟩
      simp only [Bool.or_eq_false_iff, decide_eq_false_iff_not] at hb
      have hl : l.length ≤ 10 := by omega
      exact ⟨hl, h2 hv (by omega)⟩
  obtain ⟨b, hb, hf⟩ := hg
  rw [hb]
  simp only [Option.bind_some]
  cases b with
  | true => rfl
  | false =>
    rw [if_neg (by simp)]
    obtain ⟨h1, h2⟩ := hf rfl
    obtain ⟨e, v, hv⟩ := bellNew_eq a l (by omega) fun g hg => by have := h2 g hg; omega
    rw [m_node_New, m_towncrierref27_New, e, hv]
    simp only [Option.bind_some]
    split
    · simp [self_node]
    · simp [self_node]
end Go.Proofs
end
section
/- A law's row, off its contract: what is handed in, read. -/






namespace Go.Tm
open Go.RowKit Go.WideShapes Go.ChangeShapes

/-! ## What is handed in, read -/
def aggT (P : Program) (t : TypeId) : Bool := match P.underlying t with
  | some (.struct _) => true
  | _ => false

def mkD (P : Program) (t : TypeId) (l : List D) : D := bif aggT P t then .agg l else l.headD .undef

def fieldsIn (P : Program) (chk : TypeId → Bool) : Nat → List Field → Nat → Bool
  | off, [], tot => Nat.beq off tot
  | off, f :: fs, tot => Nat.beq f.offset off && chk f.type && fieldsIn P chk (off + P.cellsOf f.type) fs tot

/-- plain data: bools, numbers, strings, lists and structs of such -/
def dataT (P : Program) : Nat → TypeId → Bool
  | 0, _ => false
  | n + 1, t => match P.underlying t with
    | some .bool => true
    | some (.int _) => true
    | some .string => true
    | some (.slice e) => dataT P n e && Nat.blt 0 (P.cellsOf e) && (aggT P e || Nat.beq (P.cellsOf e) 1)
    | some (.struct fs) => fieldsIn P (dataT P n) 0 fs.toList (P.cellsOf t)
    | _ => false

def typedL (p : TypeId → List D → Prop) : List TypeId → List D → Prop
  | [], l => l = []
  | t :: ts, l => ∃ l1 l2, l = l1 ++ l2 ∧ p t l1 ∧ typedL p ts l2

/-- cells that are such data -/
def typed (P : Program) : Nat → TypeId → List D → Prop
  | 0, _, _ => False
  | n + 1, t, l => match P.underlying t with
    | some .bool => ∃ b, l = [.bool b]
    | some (.int k) => ∃ m, l = [.int k m]
    | some .string => ∃ s, l = [.str s]
    | some (.slice e) => ∃ xs : List (List D), l = [.imm (P.cellsOf e) (xs.map (mkD P e)) 4] ∧ ∀ x ∈ xs, typed P n e x
    | some (.struct fs) => typedL (typed P n) (fs.toList.map (·.type)) l
    | _ => False

theorem reps_append' {C : Cx} : ∀ {l1 l2 : List D} {v1 v2 : List Value}, reps C l1 v1 → reps C l2 v2 → reps C (l1 ++ l2) (v1 ++ v2)
  | [], l2, v1, v2, h1, h2 => by simp only [reps] at h1; subst h1; simpa using h2
  | d :: ds, l2, v1, v2, h1, h2 => by
    simp only [reps] at h1
    obtain ⟨v, vs, rfl, hd, h1⟩ := h1
    simp only [List.cons_append, reps]
    exact ⟨v, vs ++ v2, rfl, hd, reps_append' h1 h2⟩

theorem elems_of {C : Cx} {b s : Nat} {p : List D → Prop} {f : List D → D} : ∀ (n o : Nat), (∀ i, i < n → ∃ l v, p l ∧ rep C (f l) v ∧ v.cells.size = s ∧ v.cells.toList.all (·.oneCell') = true ∧ C.w.rangeAt b (o + i * s) v.cells.toList) →
    ∃ xs : List (List D), xs.length = n ∧ elems C (xs.map f) b o s ∧ ∀ x ∈ xs, p x
  | 0, o, _ => ⟨[], rfl, by simp only [List.map_nil, elems], by simp⟩
  | n + 1, o, h => by
    obtain ⟨l, v, h1, h2, h3, h4, h5⟩ := h 0 (by omega)
    obtain ⟨xs, g1, g2, g3⟩ := elems_of n (o + s) (fun i hi => by
      obtain ⟨l, v, h1, h2, h3, h4, h5⟩ := h (i + 1) (by omega)
      exact ⟨l, v, h1, h2, h3, h4, by rwa [show o + (i + 1) * s = o + s + i * s by rw [Nat.add_mul]; omega] at h5⟩)
    refine ⟨l :: xs, by simp [g1], ?_, by simpa using ⟨h1, g3⟩⟩
    simp only [List.map_cons, elems]
    exact ⟨⟨v, h2, h3, h4, by simpa using h5⟩, g2⟩

theorem fieldsIn_le {P : Program} {chk : TypeId → Bool} : ∀ (fs : List Field) (off tot : Nat), fieldsIn P chk off fs tot = true → off ≤ tot
  | [], off, tot, h => Nat.le_of_eq (Nat.eq_of_beq_eq_true h)
  | f :: fs, off, tot, h => by
    simp only [fieldsIn, Bool.and_eq_true] at h
    have := fieldsIn_le fs _ _ h.2
    omega

section
variable {H : Type} {enc : TypeId × Value → H} {P : Program} {w : World} {sp : Nat → Bool}

theorem trod_reps : ∀ (n fuel : Nat) (t : TypeId) (cs : List Value) (x : DataW H × List MemPlace) (C : Cx), C.w = w → (∀ b, ¬ C.M b) → (∀ b, C.Z b) → dataT P n t = true → DataW.trod enc P w 0 sp true fuel t cs = some x →
    ∃ l, reps C l cs ∧ typed P n t l ∧ cs.all (·.oneCell') = true
  | 0, _, _, _, _, _, _, _, _, h, _ => by simp [dataT] at h
  | n + 1, fuel, t, cs, x, C, hw, hM, hlo, hd, h => by
    unfold dataT at hd
    split at hd
    · rename_i ht
      simp only [typed, ht]
      obtain ⟨b, rfl, _⟩ := DataW.trod_bool ht h
      exact ⟨[.bool b], by simp only [reps, rep]; exact ⟨_, _, rfl, rfl, rfl⟩, ⟨b, rfl⟩, rfl⟩
    · rename_i k ht
      simp only [typed, ht]
      obtain ⟨m, rfl, _, hwf⟩ := DataW.trod_int ht h
      simp only [Lit.wf, Bool.and_eq_true, decide_eq_true_eq] at hwf
      exact ⟨[.int k m], by simp only [reps, rep]; exact ⟨_, _, rfl, ⟨rfl, hwf⟩, rfl⟩, ⟨m, rfl⟩, rfl⟩
    · rename_i ht
      simp only [typed, ht]
      obtain ⟨s, rfl, _, hs⟩ := DataW.trod_string ht h
      refine ⟨[.str s.data.toList], ?_, ⟨_, rfl⟩, rfl⟩
      simp only [reps, rep]
      refine ⟨_, _, rfl, ⟨by rw [Array.toArray_toList], ?_⟩, rfl⟩
      have h1 : s.data.toList.length = s.size := by rw [Array.length_toList]; rfl
      have h2 : s.size ≤ 9223372036854775807 := hs
      rw [h1]; omega
    · rename_i e ht
      simp only [typed, ht]
      simp only [Bool.and_eq_true, Bool.or_eq_true] at hd
      obtain ⟨⟨hde, hpos⟩, hone⟩ := hd
      have hpos : 0 < P.cellsOf e := Nat.le_of_ble_eq_true hpos
      rcases DataW.trod_slice ht h with ⟨rfl, _⟩ | ⟨a, len, cap, els, rest, m, _, rfl, _, hb, hl, hc, hlen, hel, _⟩
      · refine ⟨[.imm (P.cellsOf e) (([] : List (List D)).map (mkD P e)) 4], ?_, ⟨[], rfl, fun _ h => by cases h⟩, rfl⟩
        simp only [reps, rep, List.map_nil, List.length_nil]
        exact ⟨_, _, rfl, ⟨none, 0, rfl, by simp, by simp, by simp, by simp, by simp, by simp, by simp, .inl trivial⟩, rfl⟩
      · have hc : cap ≤ 9223372036854775807 := hc
        have key : ∀ i, i < len → ∃ l v, typed P n e l ∧ rep (C.at C.Z) (mkD P e l) v ∧ v.cells.size = P.cellsOf e ∧ v.cells.toList.all (·.oneCell') = true ∧ (i = 0 → a.spot = none) ∧ a.block < w.heap.size ∧ w.rangeAt a.block (a.off + i * P.cellsOf e) v.cells.toList := by
          intro i hi
          have hi' := hel i hi
          have hsome : els[i]? = some els[i] := List.getElem?_eq_getElem (by omega)
          rw [hsome, Option.bind_eq_some_iff] at hi'
          obtain ⟨cs', hcs, htr⟩ := hi'
          obtain ⟨_, hclen, hcell⟩ := World.cells?_some hcs
          obtain ⟨l, g1, g2, g3⟩ := trod_reps n m e cs' _ (C.at C.Z) (by simpa [Cx.at] using hw) (by simpa [Cx.at] using hM) (by simpa [Cx.at] using hlo) hde htr
          have h0 := hcell 0 hpos
          have hc0 : cs'[0]? = some cs'[0] := List.getElem?_eq_getElem (by omega)
          rw [hc0] at h0
          have hadd : ∀ j, ((a.add (i * P.cellsOf e)).add j).block = a.block := by intro j; unfold Addr.add; split <;> split <;> rfl
          have hblk : a.block < w.heap.size ∧ ((a.add (i * P.cellsOf e)).add 0).spot = none := by
            unfold World.cell? at h0
            rw [hadd] at h0
            split at h0
            · rename_i c T fz hh
              have := (Array.getElem?_eq_some_iff.1 hh).1
              split at h0
              · cases h0
              · rename_i hs; exact ⟨this, by simpa using hs⟩
            · cases h0
          have hspot0 : (a.add (i * P.cellsOf e)).spot = none := by simpa [Addr.add] using hblk.2
          have hae : ∀ j, j < P.cellsOf e → (a.add (i * P.cellsOf e)).add j = ⟨a.block, a.off + i * P.cellsOf e + j, none⟩ := by
            intro j _
            unfold Addr.add at hspot0 ⊢
            split at hspot0
            · rename_i hz
              simp only [hz, if_true, Nat.add_zero]
              split
              · rename_i hj; subst hj; cases a; simp_all
              · rfl
            · rename_i hz
              simp only [hz, if_false]
              split
              · rename_i hj; subst hj; rfl
              · rfl
          have hrange : w.rangeAt a.block (a.off + i * P.cellsOf e) cs' := by
            intro j v hj
            have hjl := (List.getElem?_eq_some_iff.1 hj).1
            have := hcell j (by omega)
            rw [hae j (by omega), hj] at this
            exact this
          cases hag : aggT P e with
          | true =>
            refine ⟨l, .agg cs'.toArray, g2, ?_, by simp [Value.cells, hclen], by simpa [Value.cells] using g3, ?_, hblk.1, by simpa [Value.cells] using hrange⟩
            · simp only [mkD, hag, cond_true, rep]
              exact ⟨cs', rfl, g1⟩
            · rintro rfl; simpa [Addr.add] using hspot0
          | false =>
            rw [hag] at hone
            have h1 : P.cellsOf e = 1 := by simpa using hone
            rw [h1] at hclen
            obtain ⟨v, rfl⟩ := List.length_eq_one_iff.1 hclen
            obtain ⟨d, rfl⟩ : ∃ d, l = [d] := List.length_eq_one_iff.1 ((reps_length _ _ g1).symm.trans rfl)
            simp only [reps] at g1
            obtain ⟨v', vs', hv, hd, rfl⟩ := g1
            obtain rfl : v = v' := (List.cons.inj hv).1
            have hcv : v.cells = #[v] := by
              simp only [List.all_cons, List.all_nil, Bool.and_true] at g3
              cases v <;> first | rfl | simp [Value.oneCell'] at g3
            refine ⟨[d], v, g2, by simpa [mkD, hag] using hd, by simp [hcv, h1], by simpa [hcv] using g3, ?_, hblk.1, by simpa [hcv] using hrange⟩
            rintro rfl; simpa [Addr.add] using hspot0
        obtain ⟨xs, g1, g2, g3⟩ := elems_of (C := C.at C.Z) (b := a.block) (s := P.cellsOf e) (p := typed P n e) (f := mkD P e) len a.off (fun i hi => by
          obtain ⟨l, v, h1, h2, h3, h4, _, _, h5⟩ := key i hi
          exact ⟨l, v, h1, h2, h3, h4, by subst hw; exact h5⟩)
        refine ⟨[.imm (P.cellsOf e) (xs.map (mkD P e)) 4], ?_, ⟨xs, rfl, g3⟩, rfl⟩
        simp only [reps, rep, List.length_map, g1]
        refine ⟨_, _, rfl, ⟨some a, cap, rfl, hl, by omega, by simp, by simp, by simp, by simp, by simp, ?_⟩, rfl⟩
        rcases Nat.eq_zero_or_pos len with h0 | h0
        · left; subst h0; have := List.length_eq_zero_iff.1 g1; simp [this]
        · right
          obtain ⟨_, _, _, _, _, _, k1, k2, _⟩ := key 0 h0
          intro Z hZ
          have hZ : C.Z = Z := by simpa [Cx.zone] using hZ
          subst hZ
          exact ⟨a, rfl, k1 rfl, hM _, hlo _, by rw [hw]; exact k2, g2⟩
    · rename_i fs ht
      simp only [typed, ht]
      obtain ⟨xs, m, _, _, hcl, hxl, hf⟩ := DataW.trod_struct ht h
      have key : ∀ (gs : List Field) (k : Nat), (∀ i f, gs[i]? = some f → fs[k + i]? = some f) → ∀ off, fieldsIn P (dataT P n) off gs (P.cellsOf t) = true → off ≤ cs.length → 
          ∃ l, reps C l (cs.drop off) ∧ typedL (typed P n) (gs.map (·.type)) l ∧ (cs.drop off).all (·.oneCell') = true := by
        intro gs
        induction gs with
        | nil =>
          intro k _ off ho _
          simp only [fieldsIn] at ho
          have ho := Nat.eq_of_beq_eq_true ho
          have : cs.drop off = [] := by rw [ho, ← hcl]; simp
          rw [this]
          exact ⟨[], by simp only [reps], rfl, rfl⟩
        | cons f gs ih =>
          intro k hk off ho hle
          simp only [fieldsIn, Bool.and_eq_true] at ho
          obtain ⟨⟨h1, h2⟩, h3⟩ := ho
          have h1 := Nat.eq_of_beq_eq_true h1
          have hfk := hf k f (by simpa using hk 0 f rfl)
          have hkl : k < xs.length := by
            have := hk 0 f rfl
            rw [hxl]
            exact (Array.getElem?_eq_some_iff.1 (by simpa using this)).1
          rw [List.getElem?_eq_getElem hkl, h1] at hfk
          obtain ⟨l1, g1, g2, g3⟩ := trod_reps n m f.type _ _ C hw hM hlo h2 hfk
          have hl1 : ((cs.drop off).take (P.cellsOf f.type)).length = P.cellsOf f.type := by
            have := fieldsIn_le _ _ _ h3
            simp
            omega
          obtain ⟨l2, k1, k2, k3⟩ := ih (k + 1) (fun i f' hi => by have := hk (i + 1) f' (by simpa using hi); rwa [show k + (i + 1) = k + 1 + i by omega] at this) (off + P.cellsOf f.type) h3 (by
            simp at hl1; omega)
          have e : cs.drop off = (cs.drop off).take (P.cellsOf f.type) ++ cs.drop (off + P.cellsOf f.type) := by
            rw [← List.drop_drop, List.take_append_drop]
          refine ⟨l1 ++ l2, by rw [e]; exact reps_append' g1 k1, ⟨l1, l2, rfl, g2, k2⟩, by rw [e, List.all_append, g3, k3]; rfl⟩
      simpa using key fs.toList 0 (fun i f hi => by simpa using hi) 0 hd (Nat.zero_le _)
    · cases hd

/-- the arguments, read -/
theorem trod_rep {r : Reach} {b0 n : Nat} {t : TypeId} {v : Value} {d : DataW H} {ps : List MemPlace} {fr : Nat} (hd : dataT P n t = true) (hval : Value.okWide P w r b0 t v) (h : DataW.Trod enc P w 0 sp true t v d ps) :
    ∃ l, typed P n t l ∧ rep (cx0 w fr) (mkD P t l) v := by
  obtain ⟨fuel, h⟩ := h
  obtain ⟨l, h1, h2, h3⟩ := trod_reps n fuel t _ _ (cx0 w fr) rfl (fun _ h => h) (fun _ => trivial) hd h
  refine ⟨l, h2, ?_⟩
  unfold mkD aggT
  cases n with
  | zero => simp [dataT] at hd
  | succ n =>
    unfold dataT at hd
    unfold Value.okWide at hval
    split at hd
    case h_5 fs ht =>
      rw [ht] at hval ⊢
      obtain ⟨cs, rfl, _⟩ := hval
      simp only [cond_true, rep]
      exact ⟨cs.toList, by simp, by simpa [Value.cells] using h1⟩
    case h_6 => cases hd
    all_goals
      rename_i ht
      rw [ht] at hval ⊢
      simp only [cond_false]
      have hcv : v.cells = #[v] := by
        cases v with
        | agg cs => simp [Cell.okWide, Cell.ok, ht] at hval
        | _ => rfl
      rw [hcv] at h1
      have hl : ∃ d, l = [d] := List.length_eq_one_iff.1 ((reps_length _ _ h1).symm.trans rfl)
      obtain ⟨d, rfl⟩ := hl
      simp only [reps] at h1
      obtain ⟨v', vs', hv, hd', _⟩ := h1
      obtain rfl : v = v' := by simpa using (List.cons.inj hv).1
      exact hd'

def typedAll (P : Program) (n : Nat) : List TypeId → List D → Prop
  | [], l => l = []
  | t :: ts, l => ∃ c r, l = mkD P t c :: r ∧ typed P n t c ∧ typedAll P n ts r

theorem trodAll_reps {r : Reach} {b0 n fr : Nat} : ∀ {ts : List TypeId} {vs : List Value} {ds : List (DataW H)} {ps : List MemPlace}, ts.all (dataT P n) = true → (∀ (j : Nat) t v, ts[j]? = some t → vs[j]? = some v → Value.okWide P w r b0 t v) →
    DataW.TrodAll enc P w 0 sp true ts vs ds ps → ∃ l, typedAll P n ts l ∧ reps (cx0 w fr) l vs
  | [], [], [], _, _, _, _ => ⟨[], rfl, by simp only [reps]⟩
  | t :: ts, v :: vs, d :: ds, ps, hd, hval, h => by
    obtain ⟨p, q, h1, h2, _⟩ := h
    simp only [List.all_cons, Bool.and_eq_true] at hd
    obtain ⟨c, g1, g2⟩ := trod_rep (fr := fr) hd.1 (hval 0 t v rfl rfl) h1
    obtain ⟨l, k1, k2⟩ := trodAll_reps hd.2 (fun j t v h h' => hval (j + 1) t v h h') h2
    exact ⟨_ :: l, ⟨c, l, rfl, g1, k1⟩, by simp only [reps]; exact ⟨_, _, rfl, g2, k2⟩⟩
  | [], _ :: _, _, _, _, _, h => h.elim
  | [], [], _ :: _, _, _, _, h => h.elim
  | _ :: _, [], _, _, _, _, h => h.elim
  | _ :: _, _ :: _, [], _, _, _, h => h.elim

/-- data that lie below stay -/
theorem trodAll_stays (hl : laidOutB P = true) {W W' : World} (hB : Below W.heap.size W W') {sp' : Nat → Bool} : ∀ {ts : List TypeId} {vs : List Value} {ds : List (DataW H)} {ps : List MemPlace}, (ts.all fun t => P.readableRec t && Nat.blt t P.types.size) = true →
    DataW.TrodAll enc P W 0 (fun _ => true) true ts vs ds ps → (∀ p ∈ ps, p.block < W.heap.size ∧ sp' p.block = true) → DataW.TrodAll enc P W' 0 sp' true ts vs ds ps
  | [], [], [], _, _, h, _ => h
  | t :: ts, v :: vs, d :: ds, ps, hr, h, hp => by
    obtain ⟨p, q, h1, h2, rfl⟩ := h
    simp only [List.all_cons, Bool.and_eq_true] at hr
    refine ⟨p, q, WideElems.Trod_stays hl hr.1.1 (Nat.le_of_ble_eq_true hr.1.2) h1 (fun x hx => hB.same (hp x (by simp [hx])).1) (fun x hx => (hp x (by simp [hx])).2), ?_, rfl⟩
    exact trodAll_stays hl hB hr.2 h2 fun x hx => hp x (by simp [hx])
  | [], _ :: _, _, _, _, h, _ => h.elim
  | [], [], _ :: _, _, _, h, _ => h.elim
  | _ :: _, [], _, _, _, h, _ => h.elim
  | _ :: _, _ :: _, [], _, _, h, _ => h.elim

/-- a law's row, off its contract -/
theorem law_contract {K : FuncId} {f : Func} {s : ChangeSpec} {apart fresh : Bool} {n : Nat} {tb : TypeId} (hl : laidOutB P = true) (hr : (f.params.toList.all fun t => P.readableRec t && Nat.blt t P.types.size) = true)
    (hd : f.params.toList.all (dataT P n) = true) (hvars : s.vars = []) (hres : f.resultTypes = #[tb]) (hb : P.underlying tb = some .bool)
    (hfn : ∀ ds : List (DataW H), ds.length = f.params.size → s.fn H ds = { results := [.lit (.bool true)], args := ds })
    (hK : ∀ l, typedAll P n f.params.toList l → CallP P K l (.bool true)) {W : World} {base : Nat} {args : Array Value} {ds gs : List (DataW H)} {before : List MemPlace}
    (hval : ∀ (j : Nat) t v, f.params[j]? = some t → args[j]? = some v → Value.okWide P W .any base t v) (hW : DataW.Whole enc P f.params.toList s.vars apart W args.toList ds gs before) :
    Calls P K args W fun e W' => ∃ v, e = .returned v ∧ s.post enc P f apart fresh false false W args v W' := by
  have hW' := hW
  obtain ⟨p, q, hA, hV, rfl, hfz, hnd⟩ := hW
  rw [hvars] at hV
  have hlen : ds.length = f.params.size := by
    have : ∀ {ts : List TypeId} {vs : List Value} {ds : List (DataW H)} {ps : List MemPlace}, DataW.TrodAll enc P W 0 (fun _ => true) true ts vs ds ps → ds.length = ts.length := by
      intro ts
      induction ts with
      | nil => intro vs ds ps h; cases vs <;> cases ds <;> first | rfl | exact h.elim
      | cons t ts ih => intro vs ds ps h; cases vs <;> cases ds <;> first | (obtain ⟨_, _, _, h2, _⟩ := h; simp [ih h2]) | exact h.elim
    simpa using this hA
  have hgs : gs = [] ∧ q = [] := by
    cases gs with
    | nil => exact ⟨rfl, hV⟩
    | cons g gs => exact hV.elim
  obtain ⟨rfl, rfl⟩ := hgs
  obtain ⟨l, h1, h2⟩ := trodAll_reps (fr := W.heap.size) hd (fun j t v h h' => hval j t v (by simpa using h) (by simpa using h')) hA
  refine ((hK l h1).2 W _ h2).mono fun e W' ⟨v, he, hk, _, hv⟩ => ⟨v, he, ?_⟩
  simp only [rep] at hv
  subst hv
  have hB := hk.below
  have hlt := hW'.lt
  have hf := hfn ds hlen
  refine ⟨ds, [], p ++ [], [], p, [], hW', ?_, ?_, ?_, ?_, fun h => by cases h⟩
  · rw [List.append_nil, hf, hres]
    exact ⟨[], [], ⟨1, by simp [DataW.trod, Value.cells, hb]⟩, rfl, rfl⟩
  · rw [List.append_nil, hf]
    exact trodAll_stays hl hB hr hA fun x hx => ⟨hlt x (by simp [hx]), by simpa using hlt x (by simp [hx])⟩
  · rw [List.append_nil, hf, hvars]
    rfl
  · exact hB.frame _
end

/-! ## What typed data are, type by type -/
theorem list_of {α : Type} {f : α → D} {g : List D → D} : ∀ (xs : List (List D)), (∀ x ∈ xs, ∃ y, g x = f y) → ∃ l : List α, xs.map g = l.map f
  | [], _ => ⟨[], rfl⟩
  | x :: xs, h => by
    obtain ⟨y, hy⟩ := h x (by simp)
    obtain ⟨l, hl⟩ := list_of xs fun x hx => h x (by simp [hx])
    exact ⟨y :: l, by simp only [List.map_cons, hy, hl]⟩

section
variable {P : Program} {n : Nat} {t : TypeId} {l : List D}
theorem mkD_one {d : D} (ha : aggT P t = false) : mkD P t [d] = d := by simp only [mkD, ha, cond_false, List.headD_cons]
theorem mkD_agg (ha : aggT P t = true) : mkD P t l = .agg l := by simp only [mkD, ha, cond_true]
theorem typed_int {k : IntKind} (hu : P.underlying t = some (.int k)) (h : typed P (n + 1) t l) : ∃ m, l = [.int k m] := by
  rw [typed, hu] at h; exact h
theorem typed_list {α : Type} (f : α → D) {e : TypeId} {s : Nat} (hu : P.underlying t = some (.slice e)) (ha : aggT P t = false) (hc : P.cellsOf e = s) (hx : ∀ x, typed P n e x → ∃ y, mkD P e x = f y) (h : typed P (n + 1) t l) :
    ∃ m : List α, mkD P t l = .imm s (m.map f) 4 := by
  rw [typed, hu] at h
  obtain ⟨xs, rfl, hxs⟩ := h
  obtain ⟨m, hm⟩ := list_of (f := f) (g := mkD P e) xs fun x hx' => hx x (hxs x hx')
  exact ⟨m, by rw [mkD_one ha, hm, hc]⟩
theorem typed_one {e : TypeId} (hu : P.underlying t = some (.slice e)) (h : typed P (n + 1) t l) : ∃ d, l = [d] := by
  rw [typed, hu] at h
  obtain ⟨xs, rfl, _⟩ := h
  exact ⟨_, rfl⟩
theorem typed_struct {fs : Array Field} (hu : P.underlying t = some (.struct fs)) (h : typed P (n + 1) t l) : typedL (typed P n) (fs.toList.map (·.type)) l := by
  rw [typed, hu] at h; exact h
theorem typedL_cons {p : TypeId → List D → Prop} {ts : List TypeId} (h : typedL p (t :: ts) l) : ∃ l1 l2, l = l1 ++ l2 ∧ p t l1 ∧ typedL p ts l2 := h
theorem typedL_nil {p : TypeId → List D → Prop} (h : typedL p [] l) : l = [] := h
theorem typedAll_cons {ts : List TypeId} (h : typedAll P n (t :: ts) l) : ∃ c r, l = mkD P t c :: r ∧ typed P n t c ∧ typedAll P n ts r := h
theorem typedAll_nil (h : typedAll P n [] l) : l = [] := h
end
end Go.Tm
end

/- Texts of the proof. -/
import Derived.Test.YtbbinddkhlmlcaaDecreeVotesPf
import Derived.Test.YtbbinddkhlmlcaaDecreeVotesPi
import Derived.Test.YtbbinddkhlmlcaaDecreeVotesPg
import Derived.Test.YtbbinddkhlmlcaaDecreeVotesPk
section
namespace Go.Proofs
open Go.Tm
def risesP : Int → List Int → Bool
  | _, [] => true
  | last, n :: r => decide (last < n) && decide (n < 6) && risesP n r
def gen : Nat → Int → List (List Int)
  | 0, _ => [[]]
  | f + 1, lo => gen f (lo + 1) ++ (gen f (lo + 1)).map fun r => (lo + 1) :: r
theorem nil_gen : ∀ (f : Nat) (lo : Int), [] ∈ gen f lo
  | 0, _ => by simp [gen]
  | f + 1, lo => by simp only [gen, List.mem_append]; exact .inl (nil_gen f _)
theorem mem_gen : ∀ (f : Nat) (lo : Int) (l : List Int), 5 - lo ≤ f → risesP lo l = true → l ∈ gen f lo
  | f, lo, [], _, _ => nil_gen f lo
  | 0, lo, x :: r, hf, h => by
    simp only [risesP, Bool.and_eq_true, decide_eq_true_eq] at h
    omega
  | f + 1, lo, x :: r, hf, h => by
    have h' := h
    simp only [risesP, Bool.and_eq_true, decide_eq_true_eq] at h'
    simp only [gen, List.mem_append, List.mem_map]
    by_cases hx : x = lo + 1
    · subst hx
      exact .inr ⟨r, mem_gen f (lo + 1) r (by omega) h'.2, rfl⟩
    · refine .inl (mem_gen f (lo + 1) (x :: r) (by omega) ?_)
      simp only [risesP, Bool.and_eq_true, decide_eq_true_eq]
      exact ⟨⟨by omega, h'.1.2⟩, h'.2⟩
def setB (l : List Int) : Int := l.foldl (fun s n => bif decide (n ≥ 0) && decide (n < 6) then bitw .or .u64 s (shw true .u64 1 n) else s) 0
def hasI (l : List Int) (n : Int) : Bool := l.any fun x => x == n
end Go.Proofs
end
section
namespace Go.Proofs
open Go.Tm
def popI (n : Int) : Int :=
  let a := wr .u64 (bitw .and .u64 (shw false .u64 n 1) 6148914691236517205 + bitw .and .u64 n 6148914691236517205)
  let b := wr .u64 (bitw .and .u64 (shw false .u64 a 2) 3689348814741910323 + bitw .and .u64 a 3689348814741910323)
  let c := bitw .and .u64 (wr .u64 (shw false .u64 b 4 + b)) 1085102592571150095
  let d := wr .u64 (c + shw false .u64 c 8)
  let e := wr .u64 (d + shw false .u64 d 16)
  let f := wr .u64 (e + shw false .u64 e 32)
  bitw .and .i64 (wr .i64 f) 127
def mask (p : Int → Bool) : List Int := [0, 1, 2, 3, 4, 5].filter p
theorem mask_gen (p : Int → Bool) : mask p ∈ gen 6 (-1) := by
  refine mem_gen 6 (-1) _ (by omega) ?_
  unfold mask
  cases h0 : p 0 <;> cases h1 : p 1 <;> cases h2 : p 2 <;> cases h3 : p 3 <;> cases h4 : p 4 <;> cases h5 : p 5 <;> simp [h0, h1, h2, h3, h4, h5, risesP]
def setStep (s n : Int) : Int := bif decide (n ≥ 0) && decide (n < 6) then bitw .or .u64 s (shw true .u64 1 n) else s
theorem setB_snoc (l : List Int) (n : Int) : setB (l ++ [n]) = setStep (setB l) n := by
  unfold setB
  rw [List.foldl_append]
  rfl
theorem step_all : ((gen 6 (-1)).all fun k => [0, 1, 2, 3, 4, 5].all fun n => setStep (setB k) n == setB (mask fun x => hasI k x || x == n)) = true := by decide +kernel
theorem mask_congr {p q : Int → Bool} (h : ∀ x ∈ [(0 : Int), 1, 2, 3, 4, 5], p x = q x) : mask p = mask q := by
  unfold mask
  exact List.filter_congr h
theorem hasI_mask (p : Int → Bool) (x : Int) (hx : x ∈ [(0 : Int), 1, 2, 3, 4, 5]) : hasI (mask p) x = p x := by
  unfold hasI mask
  rw [List.any_filter]
  simp only [List.any_cons, List.any_nil]
  simp only [List.mem_cons, List.not_mem_nil, or_false] at hx
  rcases hx with rfl | rfl | rfl | rfl | rfl | rfl <;> simp
theorem hasI_snoc (l : List Int) (n x : Int) : hasI (l ++ [n]) x = (hasI l x || n == x) := by
  unfold hasI
  simp
theorem setB_mask (l : List Int) : setB l = setB (mask (hasI l)) := by
  generalize hm : l.reverse = r
  have hl : l = r.reverse := by rw [← hm, List.reverse_reverse]
  clear hm
  subst hl
  induction r with
  | nil => decide +kernel
  | cons n r ih =>
    rw [List.reverse_cons, setB_snoc, ih]
    by_cases hn : n ∈ [(0 : Int), 1, 2, 3, 4, 5]
    · have h := List.all_eq_true.1 (List.all_eq_true.1 step_all _ (mask_gen (hasI r.reverse))) n hn
      rw [eq_of_beq h]
      congr 1
      refine mask_congr fun x hx => ?_
      rw [hasI_mask _ x hx, hasI_snoc]
      congr 1
      rw [Bool.eq_iff_iff, beq_iff_eq, beq_iff_eq]
      exact eq_comm
    · have h1 : setStep (setB (mask (hasI r.reverse))) n = setB (mask (hasI r.reverse)) := by
        unfold setStep
        have : (decide (n ≥ 0) && decide (n < 6)) = false := by
          rw [Bool.eq_false_iff]
          intro hh
          simp only [Bool.and_eq_true, decide_eq_true_eq] at hh
          exact hn (by simp only [List.mem_cons, List.not_mem_nil, or_false]; omega)
        rw [this]; rfl
      rw [h1]
      congr 1
      refine mask_congr fun x hx => ?_
      rw [hasI_snoc]
      have : (n == x) = false := by
        rw [Bool.eq_false_iff]
        intro hh
        rw [eq_of_beq hh] at hn
        exact hn hx
      rw [this, Bool.or_false]
theorem pop_all : ((gen 6 (-1)).all fun m => (gen 6 (-1)).all fun k => popI (bitw .and .u64 (setB m) (setB k)) == ((m.filter (hasI k)).length : Int)) = true := by decide +kernel
theorem rises_mem {m : List Int} (hm : risesP (-1) m = true) : ∀ x ∈ m, x ∈ [(0 : Int), 1, 2, 3, 4, 5] := by
  have key : ∀ (l : List Int) (k : Int), risesP k l = true → ∀ x ∈ l, k < x ∧ x < 6 := by
    intro l
    induction l with
    | nil => intro _ _ x hx; cases hx
    | cons y l ih =>
      intro k h x hx
      simp only [risesP, Bool.and_eq_true, decide_eq_true_eq] at h
      rcases List.mem_cons.1 hx with rfl | hx
      · exact h.1
      · have := ih y h.2 x hx
        omega
  intro x hx
  have := key m (-1) hm x hx
  simp only [List.mem_cons, List.not_mem_nil, or_false]
  omega
theorem pop_count {m : List Int} (hm : risesP (-1) m = true) (s : List Int) : popI (bitw .and .u64 (setB m) (setB s)) = ((m.filter (hasI s)).length : Int) := by
  rw [setB_mask s]
  have h := List.all_eq_true.1 (List.all_eq_true.1 pop_all m (mem_gen 6 (-1) m (by omega) hm)) _ (mask_gen (hasI s))
  rw [eq_of_beq h]
  congr 2
  exact List.filter_congr fun x hx => hasI_mask _ x (rises_mem hm x hx)
end Go.Proofs
end
section
namespace Go.Proofs
open Go.Tm
set_option linter.unusedSimpArgs false
theorem nodes_loop (l : List TPromise) : ∀ acc : List Int, acc.length + l.length < 1000000 → m_attempt_nodes_loop1 l acc = some (acc ++ l.map TPromise.Node) := by
  induction l with
  | nil => intro acc _; simp [m_attempt_nodes_loop1]
  | cons y l ih =>
    intro acc h
    simp only [List.length_cons] at h
    rw [m_attempt_nodes_loop1, if_pos (by simp; omega), ih _ (by simp; omega)]
    simp
theorem nodes_eq (l : List TPromise) (h : l.length < 1000000) : m_attempt_nodes l = some (l.map TPromise.Node) := by
  rw [m_attempt_nodes, nodes_loop l [] (by simpa using h)]; rfl
def bestS : List TPromise → List UInt8 → Int → List UInt8
  | [], s, _ => s
  | y :: l, s, n => if y.Ballot > n then bestS l y.Value y.Ballot else bestS l s n
theorem best_loop (l : List TPromise) : ∀ s n, m_attempt_Best_loop1 l s n = some (bestS l s n) := by
  induction l with
  | nil => intro s n; rfl
  | cons y l ih =>
    intro s n
    rw [m_attempt_Best_loop1, bestS]
    split <;> simp only [Option.bind_some] <;> exact ih _ _
theorem best_eq (l : List TPromise) (w : List UInt8) : m_attempt_Best l w = some (bestS l w 0) := by
  rw [m_attempt_Best, best_loop]; rfl
theorem index_loop (v : Int) (l : List Int) : ∀ n : Nat, (v ∈ l → ∃ k : Nat, m_slices_Index_int_int_loop1 v l n = some (.inl (k : Int))) ∧ (v ∉ l → m_slices_Index_int_int_loop1 v l n = some (.inr ())) := by
  induction l with
  | nil => intro n; exact ⟨(fun h => by cases h), fun _ => rfl⟩
  | cons y l ih =>
    intro n
    rw [m_slices_Index_int_int_loop1]
    by_cases h : v = y
    · rw [if_pos h]
      exact ⟨fun _ => ⟨n, rfl⟩, fun hn => absurd (h ▸ List.mem_cons_self) hn⟩
    · rw [if_neg h]
      refine ⟨fun hv => (ih (n + 1)).1 ?_, fun hv => (ih (n + 1)).2 fun hh => hv (List.mem_cons_of_mem _ hh)⟩
      rcases List.mem_cons.1 hv with hv | hv
      · exact absurd hv h
      · exact hv
theorem has_eq (l : List Int) (v : Int) : m_quorum_Has l v = some (decide (v ∈ l)) := by
  rw [m_quorum_Has, m_slices_Contains_int_int, m_slices_Index_int_int]
  by_cases h : v ∈ l
  · obtain ⟨k, hk⟩ := (index_loop v l 0).1 h
    rw [hk]
    simp [h]
  · rw [(index_loop v l 0).2 h]
    simp [h]
end Go.Proofs
end
section
namespace Go.Proofs
open Go.Tm
set_option linter.unusedSimpArgs false
theorem rises_lt : ∀ (l : List Int) (k : Int), risesP k l = true → ∀ x ∈ l, k < x ∧ x < 6 := by
  intro l
  induction l with
  | nil => intro _ _ x hx; cases hx
  | cons y l ih =>
    intro k h x hx
    simp only [risesP, Bool.and_eq_true, decide_eq_true_eq] at h
    rcases List.mem_cons.1 hx with rfl | hx
    · exact h.1
    · have := ih y h.2 x hx
      omega
theorem qcheck_loop (l : List Int) : ∀ n, m_quorum_Check_loop1 l n = some (if risesP n l = true then .inr (l.getLastD n) else .inl 60) := by
  induction l with
  | nil => intro n; simp [m_quorum_Check_loop1, risesP]
  | cons y l ih =>
    intro n
    rw [m_quorum_Check_loop1]
    by_cases h : (y ≤ n) ∨ (y ≥ 6)
    · rw [if_pos h, if_neg (by simp only [risesP, Bool.and_eq_true, decide_eq_true_eq]; omega)]
    · rw [if_neg h, ih]
      have : risesP n (y :: l) = risesP y l := by
        simp only [risesP]
        have h1 : decide (n < y) = true := by simp; omega
        have h2 : decide (y < 6) = true := by simp; omega
        simp [h1, h2]
      rw [this, List.getLastD_cons]
def QOk (l : List Int) : Prop := l.length ≤ 6 ∧ risesP (-1) l = true ∧ l ≠ []
instance (l : List Int) : Decidable (QOk l) := by unfold QOk; infer_instance
theorem qcheck_eq (l : List Int) : m_quorum_Check l = some (if l.length > 6 then 4 else if risesP (-1) l = true ∧ l ≠ [] then 0 else 60) := by
  rw [m_quorum_Check]
  by_cases h : (l.length : Int) > 6
  · rw [if_pos h, if_pos (by omega)]
  · rw [if_neg h, if_neg (by omega), qcheck_loop]
    by_cases hr : risesP (-1) l = true
    · rw [if_pos hr]
      cases l with
      | nil => simp
      | cons y l =>
        have hl := (rises_lt (y :: l) (-1) hr ((y :: l).getLastD (-1)) (by rw [List.getLastD_eq_getLast?, List.getLast?_eq_some_getLast (by simp)]; exact List.getLast_mem (by simp))).1
        simp only [Option.bind_some, ne_eq, reduceCtorEq, not_false_eq_true, and_true, if_pos hr]
        rw [if_neg (by omega)]
    · rw [if_neg hr]
      simp [hr]
theorem qok_iff (l : List Int) : m_quorum_Check l = some 0 ↔ QOk l := by
  rw [qcheck_eq]
  unfold QOk
  by_cases h : l.length > 6
  · rw [if_pos h]; simp; omega
  · rw [if_neg h]
    by_cases h2 : risesP (-1) l = true ∧ l ≠ []
    · rw [if_pos h2]; simp only [true_iff]; exact ⟨by omega, h2⟩
    · rw [if_neg h2]; simp; intro _ h3; exact Classical.byContradiction fun h4 => h2 ⟨h3, h4⟩
end Go.Proofs
end
section
namespace Go.Proofs
open Go.Tm
set_option linter.unusedSimpArgs false
def BOk (b : Int) : Prop := ¬ (wr .i64 (b.tdiv 8) < 1 ∨ wr .i64 (b.tdiv 8) > 1048576) ∧ b.tmod 8 ≥ 0 ∧ b.tmod 8 < 6
instance (b : Int) : Decidable (BOk b) := by unfold BOk; infer_instance
theorem bcheck_eq (b : Int) : m_ballot_Check b = some (if BOk b then 0 else 50) := by
  rw [m_ballot_Check, m_ballot_Of, m_ballot_node]
  unfold BOk
  by_cases h : wr .i64 (b.tdiv 8) < 1 ∨ wr .i64 (b.tdiv 8) > 1048576
  · simp [h]
  · by_cases h1 : b.tmod 8 ≥ 0 <;> by_cases h2 : b.tmod 8 < 6 <;> simp [h, h1, h2]
def MayS (p : TPromise) (b : Int) : Prop := if p.Ballot = 0 then p.Value = [] else BOk p.Ballot ∧ p.Ballot < b ∧ p.Value.length ≤ 1024
instance (p : TPromise) (b : Int) : Decidable (MayS p b) := by unfold MayS; infer_instance
theorem may_eq (p : TPromise) (b : Int) : m_attempt_may p b = some (decide (MayS p b)) := by
  rw [m_attempt_may, bcheck_eq]
  by_cases h : p.Ballot = 0
  · have e : MayS p b ↔ p.Value = [] := by unfold MayS; rw [if_pos h]
    have e2 : decide (MayS p b) = decide (p.Value = []) := decide_eq_decide.2 e
    rw [if_pos h, e2]
    congr 1
    rw [Bool.eq_iff_iff]
    simp
  · have e : MayS p b ↔ (BOk p.Ballot ∧ p.Ballot < b ∧ p.Value.length ≤ 1024) := by unfold MayS; rw [if_neg h]
    have e2 : decide (MayS p b) = decide (BOk p.Ballot ∧ p.Ballot < b ∧ p.Value.length ≤ 1024) := decide_eq_decide.2 e
    rw [if_neg h, e2]
    by_cases h1 : BOk p.Ballot <;> simp [h1]
    rw [Bool.eq_iff_iff]
    simp
    intro _
    omega
end Go.Proofs
end
section
namespace Go.Proofs
open Go.Tm
set_option linter.unusedSimpArgs false
def riseS (m : List Int) : Option Int → List Int → Bool
  | _, [] => true
  | k, y :: l => (match k with | none => true | some k => decide (k < y)) && decide (y ∈ m) && riseS m (some y) l
theorem rising_loop (m a0 : List Int) : ∀ (l : List Int) (n : Nat), a0.drop n = l → m_attempt_rising_loop1 a0 m l n = some (if riseS m (if n = 0 then none else some (a0.getD (n - 1) default)) l = true then .inr () else .inl false) := by
  intro l
  induction l with
  | nil => intro n _; simp [m_attempt_rising_loop1, riseS]
  | cons y l ih =>
    intro n h
    have hn : n < a0.length := by
      rcases Nat.lt_or_ge n a0.length with h1 | h1
      · exact h1
      · rw [List.drop_eq_nil_of_le h1] at h; cases h
    have hy : a0.getD n default = y := by
      have := List.drop_eq_getElem_cons hn
      rw [h] at this
      simp only [List.cons.injEq] at this
      simp [List.getD, List.getElem?_eq_getElem hn, this.1]
    have hl : a0.drop (n + 1) = l := by
      have := List.drop_eq_getElem_cons hn
      rw [h] at this
      simp only [List.cons.injEq] at this
      exact this.2.symm
    rw [m_attempt_rising_loop1, has_eq]
    have key := ih (n + 1) hl
    rw [if_neg (show ¬ (n + 1 = 0) by omega), show n + 1 - 1 = n from rfl, hy] at key
    by_cases h0 : n = 0
    · subst h0
      by_cases hm : y ∈ m
      · simp [hm, key, riseS]
      · simp [hm, riseS]
    · have hp : (n : Int) > 0 := by omega
      rw [if_neg h0]
      generalize a0.getD (n - 1) default = z
      by_cases hle : y ≤ z
      · have : ¬ (z < y) := by omega
        have hn0 : 0 < n := by omega
        simp [hle, riseS, this, h0, hn0]
      · have : z < y := by omega
        by_cases hm : y ∈ m
        · simp [hle, riseS, this, hm, key]
        · simp [hle, riseS, this, hm]
theorem rising_eq (l m : List Int) : m_attempt_rising l m = some (riseS m none l) := by
  rw [m_attempt_rising, rising_loop m l l 0 (by simp)]
  rw [if_pos rfl]
  cases h : riseS m none l <;> simp
end Go.Proofs
end
section
namespace Go.Proofs
open Go.Tm
set_option linter.unusedSimpArgs false
theorem set_loop (l : List Int) : ∀ s, m_quorum_set_loop1 l s = some (l.foldl (fun s n => bif decide (n ≥ 0) && decide (n < 6) then bitw .or .u64 s (shw true .u64 1 n) else s) s) := by
  induction l with
  | nil => intro s; rfl
  | cons y l ih =>
    intro s
    rw [m_quorum_set_loop1, List.foldl_cons]
    by_cases h0 : y ≥ 0
    · by_cases h6 : y < 6
      · have : 0 ≤ y := h0
        simp [h0, h6, this, ih]
      · simp [h0, h6, ih]
    · simp [h0, ih]
theorem set_eq (l : List Int) : m_quorum_set l = some (setB l) := by
  rw [m_quorum_set, set_loop]; rfl
theorem ones_eq (n : Int) : m_math_bits_OnesCount n = some (popI n) := by
  rw [m_math_bits_OnesCount, m_math_bits_OnesCount64]
  rfl
def mostS (m l : List Int) : Bool := decide (((m.filter (hasI l)).length : Int) ≥ (m.length / 2 + 1 : Nat))
theorem most_eq (m l : List Int) (hm : QOk m) (hl : l.length ≤ 1000) : m_quorum_Most m l = some (mostS m l, 0) := by
  have hn : wr .i64 (wr .i64 ((m.length : Int).tdiv 2) + 1) = ((m.length / 2 + 1 : Nat) : Int) := by
    have h6 := hm.1
    generalize m.length = k at h6
    match k, h6 with
    | 0, _ => decide +kernel
    | 1, _ => decide +kernel
    | 2, _ => decide +kernel
    | 3, _ => decide +kernel
    | 4, _ => decide +kernel
    | 5, _ => decide +kernel
    | 6, _ => decide +kernel
    | k + 7, h => omega
  rw [m_quorum_Most, m_quorum_Need, (qok_iff m).2 hm]
  simp only [Option.bind_some, not_true_eq_false, if_false, hn]
  rw [if_neg (by omega), set_eq, set_eq]
  simp only [Option.bind_some, ones_eq, pop_count hm.2.1 l]
  rfl
end Go.Proofs
end
section
namespace Go.Proofs
open Go.Tm
set_option linter.unusedSimpArgs false
theorem indexFunc_loop (f : TPromise → Option Bool) (g : TPromise → Bool) (hf : ∀ x, f x = some (g x)) (l : List TPromise) : ∀ n : Nat, (l.any g = true → ∃ k : Nat, m_slices_IndexFunc_Promise_Promise_loop1 f l n = some (.inl (k : Int))) ∧ (l.any g = false → m_slices_IndexFunc_Promise_Promise_loop1 f l n = some (.inr ())) := by
  induction l with
  | nil => intro n; exact ⟨(fun h => by cases h), fun _ => rfl⟩
  | cons y l ih =>
    intro n
    rw [m_slices_IndexFunc_Promise_Promise_loop1, hf, List.any_cons]
    cases hg : g y with
    | true => exact ⟨fun _ => ⟨n, by simp⟩, fun h => by cases h⟩
    | false => simpa using ih (n + 1)
theorem containsFunc_eq (f : TPromise → Option Bool) (g : TPromise → Bool) (hf : ∀ x, f x = some (g x)) (l : List TPromise) : m_slices_ContainsFunc_Promise_Promise l f = some (l.any g) := by
  rw [m_slices_ContainsFunc_Promise_Promise, m_slices_IndexFunc_Promise_Promise]
  cases h : l.any g with
  | true => obtain ⟨k, hk⟩ := (indexFunc_loop f g hf l 0).1 h; rw [hk]; simp
  | false => rw [(indexFunc_loop f g hf l 0).2 h]; simp
theorem equal_loop (b : List Int) : ∀ (l : List Int) (n : Nat), n + l.length = b.length → m_slices_Equal_int_int_loop1 b l n = some (if l = b.drop n then .inr () else .inl false) := by
  intro l
  induction l with
  | nil => intro n h; simp [m_slices_Equal_int_int_loop1]; simp at h; omega
  | cons y l ih =>
    intro n h
    simp only [List.length_cons] at h
    have hn : n < b.length := by omega
    have hg : b.getD n default = b[n] := by simp [List.getD, List.getElem?_eq_getElem hn]
    have hd := List.drop_eq_getElem_cons hn
    rw [m_slices_Equal_int_int_loop1, if_pos hn, hg]
    generalize b[n] = z at hd
    rw [hd]
    by_cases hy : y = z
    · rw [if_neg (by simpa using hy), ih (n + 1) (by omega)]
      simp only [hy, List.cons.injEq, true_and]
    · rw [if_pos hy]
      simp only [hy, List.cons.injEq, false_and, if_false]
theorem equal_eq (a b : List Int) : m_slices_Equal_int_int a b = some (decide (a = b)) := by
  rw [m_slices_Equal_int_int]
  by_cases h : (a.length : Int) = (b.length : Int)
  · rw [if_neg (by simpa using h), equal_loop b a 0 (by omega), List.drop_zero]
    by_cases hab : a = b <;> simp [hab]
  · rw [if_pos h]
    have : a ≠ b := fun hh => h (by rw [hh])
    simp [this]
theorem equalP_loop (b : List TPromise) : ∀ (l : List TPromise) (n : Nat), n + l.length = b.length → m_slices_Equal_Promise_Promise_loop1 b l n = some (if l = b.drop n then .inr () else .inl false) := by
  intro l
  induction l with
  | nil => intro n h; simp [m_slices_Equal_Promise_Promise_loop1]; simp at h; omega
  | cons y l ih =>
    intro n h
    simp only [List.length_cons] at h
    have hn : n < b.length := by omega
    have hg : b.getD n default = b[n] := by simp [List.getD, List.getElem?_eq_getElem hn]
    have hd := List.drop_eq_getElem_cons hn
    rw [m_slices_Equal_Promise_Promise_loop1, if_pos hn, hg]
    generalize b[n] = z at hd
    rw [hd]
    have e : (y.Node = z.Node ∧ y.Ballot = z.Ballot ∧ y.Value = z.Value) ↔ y = z := by cases y; cases z; simp
    by_cases hy : y = z
    · rw [if_neg (by simpa using e.2 hy), ih (n + 1) (by omega)]
      simp only [hy, List.cons.injEq, true_and]
    · rw [if_pos (fun hh => hy (e.1 hh))]
      simp only [hy, List.cons.injEq, false_and, if_false]
theorem equalP_eq (a b : List TPromise) : m_slices_Equal_Promise_Promise a b = some (decide (a = b)) := by
  rw [m_slices_Equal_Promise_Promise]
  by_cases h : (a.length : Int) = (b.length : Int)
  · rw [if_neg (by simpa using h), equalP_loop b a 0 (by omega), List.drop_zero]
    by_cases hab : a = b <;> simp [hab]
  · rw [if_pos h]
    have : a ≠ b := fun hh => h (by rw [hh])
    simp [this]
theorem same_eq (a b : TAttempt) : m_attempt_Same a b = some (decide (a = b)) := by
  obtain ⟨p, bl, m, w, v, pr, ac⟩ := a
  obtain ⟨p', bl', m', w', v', pr', ac'⟩ := b
  simp only [m_attempt_Same, equal_eq, equalP_eq, TAttempt.mk.injEq]
  by_cases h1 : p = p' <;> by_cases h2 : bl = bl' <;> by_cases h3 : m = m' <;> by_cases h4 : w = w' <;> by_cases h5 : v = v' <;> by_cases h6 : pr = pr' <;> simp [h1, h2, h3, h4, h5, h6]
end Go.Proofs
end
section
namespace Go.Proofs
open Go.Tm
set_option linter.unusedSimpArgs false
structure Kept (a : TAttempt) : Prop where
  ballot : BOk a.Ballot
  members : QOk a.Members
  wish : a.Wish.length ≤ 1024
  nodes : riseS a.Members none (a.Promises.map TPromise.Node) = true
  accepted : riseS a.Members none a.Accepted = true
  may : ∀ p ∈ a.Promises, MayS p a.Ballot
  most : mostS a.Members (a.Promises.map TPromise.Node) = decide (a.Phase > 1)
  chosen : mostS a.Members a.Accepted = (a.Phase == 3)
  value : a.Phase = 1 ∨ a.Value = bestS a.Promises a.Wish 0
def Valid (a : TAttempt) : Prop :=
  if a.Phase = 0 then a = ⟨0, 0, [], [], [], [], []⟩
  else ((a.Phase = 1 ∧ a.Value = [] ∧ a.Accepted = []) ∨ a.Phase = 2 ∨ a.Phase = 3) ∧ Kept a
theorem any_may (l : List TPromise) (b : Int) : (l.any fun x => !decide (MayS x b)) = true ↔ ¬ ∀ p ∈ l, MayS p b := by
  simp
theorem risesP_len : ∀ (l : List Int) (k : Int), risesP k l = true → k < 6 → (l.length : Int) ≤ 5 - k := by
  intro l
  induction l with
  | nil => intro k _ h; simp; omega
  | cons y l ih =>
    intro k h hk
    simp only [risesP, Bool.and_eq_true, decide_eq_true_eq] at h
    have := ih y h.2 h.1.2
    simp only [List.length_cons]
    omega
theorem riseS_risesP {m : List Int} (hm : QOk m) : ∀ (l : List Int) (k : Int), riseS m (some k) l = true → risesP k l = true := by
  intro l
  induction l with
  | nil => intro _ _; rfl
  | cons y l ih =>
    intro k h
    simp only [riseS, Bool.and_eq_true, decide_eq_true_eq] at h
    have := (rises_lt m (-1) hm.2.1 y h.1.2).2
    simp only [risesP, Bool.and_eq_true, decide_eq_true_eq]
    exact ⟨⟨h.1.1, this⟩, ih y h.2⟩
theorem riseS_none {m : List Int} (hm : QOk m) (l : List Int) (h : riseS m none l = true) : risesP (-1) l = true := by
  cases l with
  | nil => rfl
  | cons y l =>
    simp only [riseS, Bool.and_eq_true, decide_eq_true_eq, true_and] at h
    have := rises_lt m (-1) hm.2.1 y h.1
    simp only [risesP, Bool.and_eq_true, decide_eq_true_eq]
    exact ⟨this, riseS_risesP hm l y h.2⟩
theorem riseS_len {m : List Int} (hm : QOk m) (l : List Int) (h : riseS m none l = true) : l.length ≤ 6 := by
  have := risesP_len l (-1) (riseS_none hm l h) (by omega)
  omega
theorem amost_eq (m l : List Int) (hm : QOk m) (hl : l.length ≤ 1000) : m_attempt_most m l = some (mostS m l) := by
  rw [m_attempt_most, most_eq m l hm hl]; rfl
theorem check1_eq (x : TPromise) (a : TAttempt) : m_attempt_Check_1 x a = some (!decide (MayS x a.Ballot)) := by
  rw [m_attempt_Check_1, may_eq]; rfl
theorem qcheck_ne {m : List Int} (h : ¬ QOk m) : ∃ e, m_quorum_Check m = some e ∧ e ≠ 0 := by
  have h2 : m_quorum_Check m ≠ some 0 := fun hh => h ((qok_iff m).1 hh)
  rw [qcheck_eq] at h2 ⊢
  exact ⟨_, rfl, fun hh => h2 (by rw [hh])⟩
theorem kept_iff (a : TAttempt) : Kept a ↔ BOk a.Ballot ∧ QOk a.Members ∧ a.Wish.length ≤ 1024 ∧ riseS a.Members none (a.Promises.map TPromise.Node) = true ∧ riseS a.Members none a.Accepted = true ∧ (∀ p ∈ a.Promises, MayS p a.Ballot) ∧ mostS a.Members (a.Promises.map TPromise.Node) = decide (a.Phase > 1) ∧ mostS a.Members a.Accepted = (a.Phase == 3) ∧ (a.Phase = 1 ∨ a.Value = bestS a.Promises a.Wish 0) :=
  ⟨fun h => ⟨h.1, h.2, h.3, h.4, h.5, h.6, h.7, h.8, h.9⟩, fun ⟨h1, h2, h3, h4, h5, h6, h7, h8, h9⟩ => ⟨h1, h2, h3, h4, h5, h6, h7, h8, h9⟩⟩
def checkTail (a0 : TAttempt) (b2 : Bool) : Option Bool :=
  Option.bind (if b2 = true then m_ballot_Check a0.Ballot else some default) fun v2 =>
  Option.bind (if (b2 = true) ∧ (v2 = 0) then m_quorum_Check a0.Members else some default) fun v3 =>
  Option.bind (if (((b2 = true) ∧ (v2 = 0)) ∧ (v3 = 0)) ∧ ((a0.Wish.length : Int) ≤ 1024) then m_attempt_nodes a0.Promises else some default) fun v4 =>
  Option.bind (if (((b2 = true) ∧ (v2 = 0)) ∧ (v3 = 0)) ∧ ((a0.Wish.length : Int) ≤ 1024) then m_attempt_rising v4 a0.Members else some default) fun v5 =>
  Option.bind (if ((((b2 = true) ∧ (v2 = 0)) ∧ (v3 = 0)) ∧ ((a0.Wish.length : Int) ≤ 1024)) ∧ (v5 = true) then m_attempt_rising a0.Accepted a0.Members else some default) fun v6 =>
  Option.bind (if (((((b2 = true) ∧ (v2 = 0)) ∧ (v3 = 0)) ∧ ((a0.Wish.length : Int) ≤ 1024)) ∧ (v5 = true)) ∧ (v6 = true) then m_slices_ContainsFunc_Promise_Promise a0.Promises (fun x0 => m_attempt_Check_1 x0 a0) else some default) fun v7 =>
  Option.bind (if ((((((b2 = true) ∧ (v2 = 0)) ∧ (v3 = 0)) ∧ ((a0.Wish.length : Int) ≤ 1024)) ∧ (v5 = true)) ∧ (v6 = true)) ∧ (¬ (v7 = true)) then m_attempt_nodes a0.Promises else some default) fun v8 =>
  Option.bind (if ((((((b2 = true) ∧ (v2 = 0)) ∧ (v3 = 0)) ∧ ((a0.Wish.length : Int) ≤ 1024)) ∧ (v5 = true)) ∧ (v6 = true)) ∧ (¬ (v7 = true)) then m_attempt_most a0.Members v8 else some default) fun v9 =>
  Option.bind (if (((((((b2 = true) ∧ (v2 = 0)) ∧ (v3 = 0)) ∧ ((a0.Wish.length : Int) ≤ 1024)) ∧ (v5 = true)) ∧ (v6 = true)) ∧ (¬ (v7 = true))) ∧ ((v9 == (decide (a0.Phase > 1))) = true) then m_attempt_most a0.Members a0.Accepted else some default) fun v10 =>
  Option.bind (if (((((((((b2 = true) ∧ (v2 = 0)) ∧ (v3 = 0)) ∧ ((a0.Wish.length : Int) ≤ 1024)) ∧ (v5 = true)) ∧ (v6 = true)) ∧ (¬ (v7 = true))) ∧ ((v9 == (decide (a0.Phase > 1))) = true)) ∧ ((v10 == (a0.Phase == 3)) = true)) ∧ (¬ (a0.Phase = 1)) then m_attempt_Best a0.Promises a0.Wish else some default) fun v11 =>
  some (((((((((b2 && (v2 == 0)) && (v3 == 0)) && (decide ((a0.Wish.length : Int) ≤ 1024))) && v5) && v6) && (!v7)) && (v9 == (decide (a0.Phase > 1)))) && (v10 == (a0.Phase == 3))) && ((a0.Phase == 1) || (a0.Value == v11)))
theorem tail_eq (a : TAttempt) (hl : a.Promises.length < 1000000) (b2 : Bool) : ∃ r, checkTail a b2 = some r ∧ (r = true ↔ b2 = true ∧ Kept a) := by
  unfold checkTail
  rw [kept_iff]
  cases b2 with
  | false => simp
  | true =>
    rw [bcheck_eq]
    by_cases hb : BOk a.Ballot
    · by_cases hq : QOk a.Members
      · have hq0 := (qok_iff _).2 hq
        by_cases hw : a.Wish.length ≤ 1024
        · have hw' : (a.Wish.length : Int) ≤ 1024 := by omega
          simp only [hb, hq0, hw', if_true, and_self, Option.bind_some, nodes_eq _ hl, rising_eq]
          by_cases h5 : riseS a.Members none (a.Promises.map TPromise.Node) = true
          · by_cases h6 : riseS a.Members none a.Accepted = true
            · have l1 := riseS_len hq _ h5
              have l2 := riseS_len hq _ h6
              rw [containsFunc_eq _ (fun x => !decide (MayS x a.Ballot)) (fun x => check1_eq x a)]
              simp only [h5, h6, and_self, if_true, Option.bind_some]
              by_cases h7 : ∀ p ∈ a.Promises, MayS p a.Ballot
              · have h7' : (a.Promises.any fun x => !decide (MayS x a.Ballot)) = false := by
                  rw [Bool.eq_false_iff]; intro hh; exact (any_may _ _).1 hh h7
                simp only [h7', Bool.false_eq_true, not_false_eq_true, and_self, if_true, Option.bind_some, amost_eq _ _ hq (Nat.le_trans l1 (by omega)), amost_eq _ _ hq (Nat.le_trans l2 (by omega)), best_eq]
                by_cases h9 : mostS a.Members (a.Promises.map TPromise.Node) = decide (a.Phase > 1)
                · by_cases h10 : mostS a.Members a.Accepted = (a.Phase == 3)
                  · by_cases h11 : a.Phase = 1
                    · simp [h9, h10, h11, hq, hw]
                      exact h7
                    · simp [h9, h10, h11, hq, hw]
                      exact fun _ => h7
                  · simp [h9, h10]
                · simp [h9]
              · have h7' := (any_may _ _).2 h7
                simp [h7', h7]
            · simp [h5, h6]
          · simp [h5]
        · have hw' : ¬ (a.Wish.length : Int) ≤ 1024 := by omega
          simp [hb, hq0, hw, hw']
      · obtain ⟨e, he, hne⟩ := qcheck_ne hq
        simp [hb, he, hne, hq]
    · simp [hb]
theorem check_eq (a : TAttempt) (hl : a.Promises.length < 1000000) : ∃ e, m_attempt_Check a = some e ∧ (e = 0 ↔ Valid a) := by
  unfold Valid
  rw [m_attempt_Check]
  by_cases h0 : a.Phase = 0
  · rw [if_pos h0, if_pos h0, same_eq]
    by_cases hz : a = ⟨0, 0, [], [], [], [], []⟩ <;> simp [hz]
  · rw [if_neg h0, if_neg h0]
    have key : ∀ b2 : Bool, ∃ e, (Option.bind (checkTail a b2) fun b1 => if ¬ (b1 = true) then some (8 : Int) else some 0) = some e ∧ (e = 0 ↔ b2 = true ∧ Kept a) := by
      intro b2
      obtain ⟨r, h1, h2⟩ := tail_eq a hl b2
      rw [h1, ← h2]
      cases r <;> simp
    by_cases h1 : a.Phase = 1
    · rw [if_pos h1]
      obtain ⟨e, he, h2⟩ := key ((a.Value == []) && ((a.Accepted.length : Int) == 0))
      refine ⟨e, he, ?_⟩
      rw [h2]
      simp [h1]
    · rw [if_neg h1]
      by_cases h2 : a.Phase = 2
      · obtain ⟨e, he, h3⟩ := key true
        refine ⟨e, ?_, ?_⟩
        · have hb : (a.Phase == 2) = true := by simp [h2]
          rw [if_pos h2, hb]
          exact he
        · rw [h3]
          simp [h2]
      · by_cases h3 : a.Phase = 3
        · obtain ⟨e, he, h4⟩ := key true
          refine ⟨e, ?_, ?_⟩
          · have hb : (a.Phase == 3) = true := by simp [h3]
            rw [if_neg h2]
            refine Eq.trans ?_ he
            show Option.bind (Option.bind (Option.bind (some (a.Phase == 3)) _) _) _ = _
            generalize hg : (a.Phase == 3) = q at hb
            subst hb
            unfold checkTail
            rw [hg]
            rfl
          · rw [h4]
            simp [h3]
        · exact ⟨8, by simp [h2, h3], by simp [h1, h2, h3]⟩
end Go.Proofs
end
section
namespace Go.Proofs
open Go.Tm
set_option linter.unusedSimpArgs false
theorem half_eq (i j : Nat) (h : i + j < 4000000) : wr .i64 (shw false .u64 (wr .u64 (wr .i64 ((i : Int) + (j : Int)))) 1) = (((i + j) / 2 : Nat) : Int) := by
  have e1 : wr .i64 ((i : Int) + (j : Int)) = (i : Int) + (j : Int) := wr_eq _ _ (by show (-9223372036854775808 : Int) ≤ _; omega) (by show _ ≤ (9223372036854775807 : Int); omega)
  have e2 : wr .u64 ((i : Int) + (j : Int)) = (i : Int) + (j : Int) := wr_eq _ _ (by show (0 : Int) ≤ _; omega) (by show _ ≤ (18446744073709551615 : Int); omega)
  have e3 : shw false .u64 ((i : Int) + (j : Int)) 1 = (((i + j) / 2 : Nat) : Int) := by
    unfold shw
    show Int.fdiv ((i : Int) + (j : Int)) 2 = _
    rw [Int.fdiv_eq_ediv_of_nonneg _ (by omega)]
    omega
  rw [e1, e2, e3]
  exact wr_eq _ _ (by show (-9223372036854775808 : Int) ≤ _; omega) (by show _ ≤ (9223372036854775807 : Int); omega)
theorem search_loop (f : Int → Option Bool) (K n : Nat) (hn : n < 1000000) (hf : ∀ x : Nat, x < n → f (x : Int) = some (decide (K ≤ x))) : ∀ (fu i j : Nat), j - i < fu → i ≤ K → K ≤ j → j ≤ n → m_sort_Search_loop1 f fu (i : Int) (j : Int) = some (K : Int) := by
  intro fu
  induction fu with
  | zero => intro i j h; omega
  | succ fu ih =>
    intro i j h h1 h2 h3
    rw [m_sort_Search_loop1]
    by_cases hij : i < j
    · rw [if_pos (by omega), half_eq i j (by omega), hf _ (by omega)]
      simp only [Option.bind_some]
      by_cases hk : K ≤ (i + j) / 2
      · rw [if_neg (by simpa using hk)]
        exact ih i ((i + j) / 2) (by omega) h1 hk (by omega)
      · rw [if_pos (by simpa using hk)]
        have e : wr .i64 ((((i + j) / 2 : Nat) : Int) + 1) = (((i + j) / 2 + 1 : Nat) : Int) := wr_eq _ _ (by show (-9223372036854775808 : Int) ≤ _; omega) (by show _ ≤ (9223372036854775807 : Int); omega)
        rw [e]
        exact ih _ j (by omega) (by omega) h2 h3
    · rw [if_neg (by omega)]
      congr 2
      omega
theorem search_eq (f : Int → Option Bool) (K n : Nat) (hn : n < 1000000) (hK : K ≤ n) (hf : ∀ x : Nat, x < n → f (x : Int) = some (decide (K ≤ x))) : m_sort_Search (n : Int) f = some (K : Int) := by
  rw [m_sort_Search]
  have h := search_loop f K n hn hf ((n : Int).toNat + 1) 0 n (by simp) (by omega) hK (by omega)
  rw [show ((0 : Nat) : Int) = 0 from rfl] at h
  rw [h]
  rfl
end Go.Proofs
end
section
namespace Go.Proofs
open Go.Tm
set_option linter.unusedSimpArgs false
section
variable {α : Type} (key : α → Int)
def insK (p : α) : List α → List α
  | [] => [p]
  | y :: l => if key y < key p then y :: insK p l else p :: y :: l
def plc (v : Int) : List α → Nat
  | [] => 0
  | y :: l => if key y < v then plc v l + 1 else 0
theorem plc_le (v : Int) : ∀ l : List α, plc key v l ≤ l.length := by
  intro l
  induction l with
  | nil => exact Nat.le_refl _
  | cons y l ih =>
    simp only [plc, List.length_cons]
    split <;> omega
theorem plc_test [Inhabited α] (v : Int) : ∀ (l : List α), (l.map key).Pairwise (· < ·) → ∀ x, x < l.length → (key (l.getD x default) ≥ v ↔ plc key v l ≤ x) := by
  intro l
  induction l with
  | nil => intro _ x hx; cases hx
  | cons y l ih =>
    intro h x hx
    simp only [List.map_cons, List.pairwise_cons] at h
    simp only [plc]
    cases x with
    | zero =>
      simp only [List.getD_cons_zero]
      by_cases hy : key y < v
      · rw [if_pos hy]
        omega
      · rw [if_neg hy]
        omega
    | succ x =>
      simp only [List.getD_cons_succ]
      simp only [List.length_cons] at hx
      by_cases hy : key y < v
      · rw [if_pos hy, ih h.2 x (by omega)]
        omega
      · rw [if_neg hy]
        have hm : l.getD x default ∈ l := by
          rw [List.getD_eq_getElem?_getD, List.getElem?_eq_getElem (by omega)]
          exact List.getElem_mem _
        have := h.1 _ (List.mem_map_of_mem hm)
        omega
theorem plc_has [Inhabited α] (v : Int) : ∀ (l : List α), (l.map key).Pairwise (· < ·) → ((plc key v l < l.length ∧ key (l.getD (plc key v l) default) = v) ↔ v ∈ l.map key) := by
  intro l
  induction l with
  | nil => intro _; simp [plc]
  | cons y l ih =>
    intro h
    simp only [List.map_cons, List.pairwise_cons] at h
    simp only [plc]
    by_cases hy : key y < v
    · rw [if_pos hy, List.getD_cons_succ, List.map_cons, List.mem_cons, ← ih h.2]
      simp only [List.length_cons]
      have : v ≠ key y := by omega
      simp only [this, false_or]
      omega
    · rw [if_neg hy, List.getD_cons_zero, List.map_cons, List.mem_cons]
      simp only [List.length_cons]
      constructor
      · intro hh; exact .inl hh.2.symm
      · rintro (hh | hh)
        · exact ⟨by omega, hh.symm⟩
        · have := h.1 _ hh
          omega
theorem ins_take (p : α) : ∀ l : List α, l.take (plc key (key p) l) ++ p :: l.drop (plc key (key p) l) = insK key p l := by
  intro l
  induction l with
  | nil => rfl
  | cons y l ih =>
    simp only [plc, insK]
    split
    · simp only [List.take_succ_cons, List.drop_succ_cons, List.cons_append, ih]
    · rfl
theorem ins_mem (p : α) (x : α) : ∀ l : List α, x ∈ insK key p l ↔ x = p ∨ x ∈ l := by
  intro l
  induction l with
  | nil => simp [insK]
  | cons y l ih =>
    simp only [insK]
    split
    · simp only [List.mem_cons, ih]
      constructor
      · rintro (h | h | h) <;> simp [h]
      · rintro (h | h | h) <;> simp [h]
    · simp only [List.mem_cons]
theorem ins_len (p : α) : ∀ l : List α, (insK key p l).length = l.length + 1 := by
  intro l
  induction l with
  | nil => rfl
  | cons y l ih =>
    simp only [insK]
    split <;> simp [ih]
theorem ins_keys (p : α) (v : Int) (l : List α) : v ∈ (insK key p l).map key ↔ v = key p ∨ v ∈ l.map key := by
  simp only [List.mem_map, ins_mem]
  constructor
  · rintro ⟨x, rfl | hx, rfl⟩
    · exact .inl rfl
    · exact .inr ⟨x, hx, rfl⟩
  · rintro (rfl | ⟨x, hx, rfl⟩)
    · exact ⟨p, .inl rfl, rfl⟩
    · exact ⟨x, .inr hx, rfl⟩
theorem ins_rise (m : List Int) (p : α) (hp : key p ∈ m) : ∀ (l : List α) (k : Option Int), (match k with | none => True | some k => k < key p) → key p ∉ l.map key → riseS m k (l.map key) = true → riseS m k ((insK key p l).map key) = true := by
  intro l
  induction l with
  | nil =>
    intro k hk _ _
    cases k with
    | none => simp [insK, riseS, hp]
    | some k =>
      have : k < key p := hk
      simp [insK, riseS, hp, this]
  | cons y l ih =>
    intro k hk hn h
    simp only [List.map_cons, List.mem_cons, not_or] at hn
    simp only [List.map_cons, riseS, Bool.and_eq_true] at h
    simp only [insK]
    by_cases hy : key y < key p
    · rw [if_pos hy]
      simp only [List.map_cons, riseS, Bool.and_eq_true]
      exact ⟨h.1, ih (some (key y)) hy hn.2 h.2⟩
    · rw [if_neg hy]
      have hlt : key p < key y := by omega
      simp only [List.map_cons, riseS, Bool.and_eq_true]
      refine ⟨⟨?_, by simpa using hp⟩, ⟨⟨by simpa using hlt, h.1.2⟩, h.2⟩⟩
      cases k with
      | none => rfl
      | some k => simpa using hk
end
theorem rise_lt {m : List Int} : ∀ (l : List Int) (k : Int), riseS m (some k) l = true → ∀ x ∈ l, k < x := by
  intro l
  induction l with
  | nil => intro _ _ x hx; cases hx
  | cons y l ih =>
    intro k h x hx
    simp only [riseS, Bool.and_eq_true, decide_eq_true_eq] at h
    rcases List.mem_cons.1 hx with rfl | hx
    · exact h.1.1
    · have := ih y h.2 x hx; omega
theorem rise_pw {m : List Int} : ∀ (l : List Int) (k : Option Int), riseS m k l = true → l.Pairwise (· < ·) := by
  intro l
  induction l with
  | nil => intro _ _; exact .nil
  | cons y l ih =>
    intro k h
    simp only [riseS, Bool.and_eq_true] at h
    exact .cons (rise_lt l y h.2) (ih _ h.2)
theorem searchK {α : Type} [Inhabited α] (key : α → Int) (l : List α) (v : Int) (f : Int → Option Bool) (hl : l.length < 1000000) (hs : (l.map key).Pairwise (· < ·)) (hf : ∀ x : Nat, x < l.length → f (x : Int) = some (decide (key (l.getD x default) ≥ v))) : m_sort_Search (l.length : Int) f = some (plc key v l : Int) :=
  search_eq f _ _ hl (plc_le key v l) fun x hx => by rw [hf x hx, decide_eq_decide.2 (plc_test key v l hs x hx)]
theorem searchInts_eq (l : List Int) (v : Int) (hl : l.length < 1000000) (hs : l.Pairwise (· < ·)) : m_sort_SearchInts l v = some (plc (fun x => x) v l : Int) := by
  rw [m_sort_SearchInts, searchK (fun x => x) l v _ hl (by simpa using hs)]
  · rfl
  · intro x hx
    rw [m_sort_SearchInts_1, if_pos (by omega)]
    rfl
theorem filter_le {α : Type} (p q : α → Bool) (h : ∀ x, p x = true → q x = true) : ∀ l : List α, (l.filter p).length ≤ (l.filter q).length := by
  intro l
  induction l with
  | nil => exact Nat.le_refl _
  | cons y l ih =>
    simp only [List.filter_cons]
    cases hp : p y with
    | true => rw [h y hp]; simp only [if_true, List.length_cons]; omega
    | false => cases hq : q y <;> simp <;> omega
theorem most_mono {m l l' : List Int} (h : ∀ x, x ∈ l → x ∈ l') (hm : mostS m l = true) : mostS m l' = true := by
  unfold mostS at hm ⊢
  simp only [decide_eq_true_eq] at hm ⊢
  have := filter_le (hasI l) (hasI l') (fun x hx => by
    unfold hasI at hx ⊢
    simp only [List.any_eq_true, beq_iff_eq, exists_eq_right] at hx ⊢
    exact h x hx) m
  omega
theorem most_nil (m : List Int) : mostS m [] = false := by
  unfold mostS
  have : m.filter (hasI []) = [] := by
    rw [List.filter_eq_nil_iff]
    intro x _; simp [hasI]
  rw [this]
  simp
  omega
end Go.Proofs
end
section
namespace Go.Proofs
open Go.Tm
set_option linter.unusedSimpArgs false
abbrev insN := insK TPromise.Node
abbrev insI := insK (fun x : Int => x)
theorem insI_keys (v x : Int) (l : List Int) : x ∈ insI v l ↔ x = v ∨ x ∈ l := ins_mem _ v x l
def withP (a : TAttempt) (l : List TPromise) : TAttempt :=
  if mostS a.Members (l.map TPromise.Node) = true then { a with Phase := 2, Value := bestS l a.Wish 0, Promises := l } else { a with Promises := l }
def promisedS (a : TAttempt) (p : TPromise) : TAttempt :=
  if p.Node ∈ a.Promises.map TPromise.Node then a else withP a (insN p a.Promises)
def CanP (a : TAttempt) (b : Int) (p : TPromise) : Prop := Valid a ∧ a.Phase = 1 ∧ b = a.Ballot ∧ p.Node ∈ a.Members ∧ MayS p b
theorem Valid.kept {a : TAttempt} (h : Valid a) (h0 : a.Phase ≠ 0) : Kept a := by
  unfold Valid at h
  rw [if_neg h0] at h
  exact h.2
theorem twin_eq (a : TAttempt) (h1 : a.Members.length < 1000000) (h2 : a.Promises.length < 1000000) (h3 : a.Accepted.length < 1000000) : m_attempt_Twin a = some a := by
  rw [m_attempt_Twin, m_slices_Clone_int_int, m_slices_Clone_Promise_Promise, m_slices_Clone_int_int, if_pos (by omega), if_pos (by omega), if_pos (by omega)]
  rfl
theorem Kept.lens {a : TAttempt} (h : Kept a) : a.Members.length ≤ 6 ∧ a.Promises.length ≤ 6 ∧ a.Accepted.length ≤ 6 := by
  have h1 := riseS_len h.members _ h.nodes
  rw [List.length_map] at h1
  exact ⟨h.members.1, h1, riseS_len h.members _ h.accepted⟩
theorem promised1_eq (a : TAttempt) (p : TPromise) (x : Nat) (hx : x < a.Promises.length) : m_attempt_Promised_1 (x : Int) a p = some (decide ((a.Promises.getD x default).Node ≥ p.Node)) := by
  rw [m_attempt_Promised_1, if_pos (by omega)]
  rfl
theorem promised_eq (a : TAttempt) (b : Int) (p : TPromise) (hl : a.Promises.length < 1000000) : ∃ r, m_attempt_Promised a b p = some r ∧ (r.2 = 0 ↔ CanP a b p) ∧ (r.2 = 0 → r.1 = promisedS a p) := by
  rw [m_attempt_Promised]
  obtain ⟨e, he, hv⟩ := check_eq a hl
  rw [he]
  simp only [Option.bind_some]
  by_cases hva : Valid a
  · have h0 := hv.2 hva
    subst h0
    rw [if_neg (by simp)]
    by_cases h1 : a.Phase = 1 ∧ b = a.Ballot
    · obtain ⟨h1, h2⟩ := h1
      rw [if_pos (by simp [h1, h2]), has_eq]
      simp only [Option.bind_some]
      by_cases h3 : p.Node ∈ a.Members
      · rw [if_neg (by simp [h1, h2, h3]), may_eq]
        simp only [Option.bind_some]
        by_cases h4 : MayS p b
        · rw [if_neg (by simp [h4])]
          have hk := hva.kept (by omega)
          obtain ⟨l1, l2, l3⟩ := hk.lens
          rw [twin_eq a (by omega) (by omega) (by omega)]
          simp only [Option.bind_some]
          have hpw : (a.Promises.map TPromise.Node).Pairwise (· < ·) := rise_pw _ _ hk.nodes
          rw [searchK TPromise.Node a.Promises p.Node _ (by omega) hpw (fun x hx => promised1_eq a p x hx)]
          simp only [Option.bind_some, Int.toNat_natCast]
          have hle := plc_le TPromise.Node p.Node a.Promises
          have hhas := plc_has TPromise.Node p.Node a.Promises hpw
          have htake := ins_take TPromise.Node p a.Promises
          have hkeys := ins_keys TPromise.Node p
          have hlen := ins_len TPromise.Node p a.Promises
          have hrise := ins_rise TPromise.Node a.Members p h3 a.Promises none trivial
          generalize plc TPromise.Node p.Node a.Promises = K at *
          rw [if_pos (by omega)]
          have hcan : CanP a b p := ⟨hva, h1, h2, h3, h4⟩
          by_cases hin : p.Node ∈ a.Promises.map TPromise.Node
          · rw [if_pos (by have := hhas.2 hin; exact ⟨by omega, this.2⟩)]
            refine ⟨_, rfl, by simp [hcan], fun _ => ?_⟩
            unfold promisedS
            rw [if_pos hin]
          · rw [if_neg (fun hh => hin (hhas.1 ⟨by omega, hh.2⟩)), if_pos (by omega), if_pos (by omega), htake, nodes_eq _ (by omega)]
            have hr := hrise hin hk.nodes
            have hln := riseS_len hk.members _ hr
            simp only [Option.bind_some, amost_eq _ _ hk.members (Nat.le_trans hln (by omega)), best_eq]
            unfold promisedS
            rw [if_neg hin]
            unfold withP
            cases hm : mostS a.Members ((insK TPromise.Node p a.Promises).map TPromise.Node) with
            | true => exact ⟨_, rfl, by simp [hcan], fun _ => rfl⟩
            | false => exact ⟨_, rfl, by simp [hcan], fun _ => rfl⟩
        · rw [if_pos (by simp [h4])]
          exact ⟨_, rfl, by simp [CanP, h4], by simp⟩
      · rw [if_pos (by simp [h3])]
        exact ⟨_, rfl, by simp [CanP, h3], by simp⟩
    · have h2 : (¬ (a.Phase = 1)) ∨ (¬ (b = a.Ballot)) := by
        by_cases h : a.Phase = 1
        · exact .inr fun hh => h1 ⟨h, hh⟩
        · exact .inl h
      rw [if_neg (fun h => h h2)]
      simp only [Option.bind_some]
      rw [if_pos (.inl h2)]
      exact ⟨_, rfl, ⟨fun h => by simp at h, fun h => absurd ⟨h.2.1, h.2.2.1⟩ h1⟩, by simp⟩
  · have h0 : e ≠ 0 := fun h => hva (hv.1 h)
    rw [if_pos h0]
    exact ⟨_, rfl, ⟨fun h => absurd h h0, fun h => absurd h.1 hva⟩, fun h => absurd h h0⟩
theorem promised_kept {a : TAttempt} {p : TPromise} (h : CanP a a.Ballot p) : Valid (promisedS a p) := by
  obtain ⟨hv, h1, _, h3, h4⟩ := h
  unfold promisedS
  split
  · exact hv
  · rename_i hin
    have hk := hv.kept (by omega)
    have hacc : a.Value = [] ∧ a.Accepted = [] := by
      unfold Valid at hv
      rw [if_neg (by omega)] at hv
      rcases hv.1 with h | h | h
      · exact h.2
      · omega
      · omega
    have hr := ins_rise TPromise.Node a.Members p h3 a.Promises none trivial hin hk.nodes
    have hmay : ∀ q ∈ insN p a.Promises, MayS q a.Ballot := by
      intro q hq
      rcases (ins_mem TPromise.Node p q a.Promises).1 hq with rfl | hq
      · exact h4
      · exact hk.may q hq
    unfold withP
    split
    · rename_i hm
      unfold Valid
      rw [if_neg (by simp)]
      exact ⟨.inr (.inl rfl), ⟨hk.ballot, hk.members, hk.wish, hr, hk.accepted, hmay, by simpa using hm, by rw [hk.chosen, h1]; rfl, .inr rfl⟩⟩
    · rename_i hm
      unfold Valid
      rw [if_neg (by simp [h1])]
      exact ⟨.inl ⟨h1, hacc⟩, ⟨hk.ballot, hk.members, hk.wish, hr, hk.accepted, hmay, by simpa [h1] using hm, hk.chosen, .inl h1⟩⟩
def acceptedS (a : TAttempt) (n : Int) : TAttempt :=
  let l := if n ∈ a.Accepted then a.Accepted else insI n a.Accepted
  { a with Accepted := l, Phase := if mostS a.Members l = true then 3 else a.Phase }
def CanA (a : TAttempt) (b : Int) (n : Int) : Prop := Valid a ∧ 2 ≤ a.Phase ∧ b = a.Ballot ∧ n ∈ a.Members
theorem accepted_eq (a : TAttempt) (b n : Int) (hl : a.Promises.length < 1000000) : ∃ r, m_attempt_Accepted a b n = some r ∧ (r.2 = 0 ↔ CanA a b n) ∧ (r.2 = 0 → r.1 = acceptedS a n) := by
  rw [m_attempt_Accepted]
  obtain ⟨e, he, hv⟩ := check_eq a hl
  rw [he]
  simp only [Option.bind_some]
  by_cases hva : Valid a
  · have h0 := hv.2 hva
    subst h0
    rw [if_neg (by simp)]
    by_cases h1 : 2 ≤ a.Phase ∧ b = a.Ballot
    · obtain ⟨h1, h2⟩ := h1
      have h1' : ¬ a.Phase < 2 := by omega
      rw [if_pos (by simp [h1', h2]), has_eq]
      simp only [Option.bind_some]
      by_cases h3 : n ∈ a.Members
      · rw [if_neg (by simp [h1', h2, h3])]
        have hk := hva.kept (by omega)
        obtain ⟨l1, l2, l3⟩ := hk.lens
        rw [twin_eq a (by omega) (by omega) (by omega)]
        simp only [Option.bind_some]
        have hpw : a.Accepted.Pairwise (· < ·) := rise_pw _ _ hk.accepted
        rw [searchInts_eq a.Accepted n (by omega) hpw]
        simp only [Option.bind_some, Int.toNat_natCast]
        have hle := plc_le (fun x : Int => x) n a.Accepted
        have hhas := plc_has (fun x : Int => x) n a.Accepted (by simpa using hpw)
        have htake := ins_take (fun x : Int => x) n a.Accepted
        have hlen := ins_len (fun x : Int => x) n a.Accepted
        have hrise := ins_rise (fun x : Int => x) a.Members n h3 a.Accepted none trivial
        simp only [List.map_id'] at hhas hrise
        generalize plc (fun x : Int => x) n a.Accepted = K at *
        rw [if_pos (by omega)]
        have hcan : CanA a b n := ⟨hva, h1, h2, h3⟩
        have hfin : ∀ l : List Int, l.length ≤ 6 → (if n ∈ a.Accepted then a.Accepted else insI n a.Accepted) = l → ∃ r, (Option.bind (α := Int) (Option.bind (m_attempt_most a.Members l) fun v5 => if v5 = true then some 3 else some a.Phase) fun n1 => some ((⟨n1, a.Ballot, a.Members, a.Wish, a.Value, a.Promises, l⟩ : TAttempt), (0 : Int))) = some r ∧ (r.2 = 0 ↔ CanA a b n) ∧ (r.2 = 0 → r.1 = acceptedS a n) := by
          intro l hl hh
          rw [amost_eq _ _ hk.members (by omega)]
          unfold acceptedS
          rw [hh]
          simp only [Option.bind_some]
          cases hm : mostS a.Members l with
          | true => exact ⟨_, rfl, by simp [hcan], fun _ => rfl⟩
          | false => exact ⟨_, rfl, by simp [hcan], fun _ => rfl⟩
        by_cases hin : n ∈ a.Accepted
        · have := hhas.2 hin
          rw [if_neg (by
            rintro (hh | hh)
            · omega
            · exact hh this.2)]
          simp only [Option.bind_some]
          exact hfin _ l3 (if_pos hin)
        · rw [if_pos (by
            by_cases hK : K = a.Accepted.length
            · exact .inl (by omega)
            · exact .inr fun hh => hin (hhas.1 ⟨by omega, hh⟩)), if_pos (by omega), if_pos (by omega), htake]
          simp only [Option.bind_some]
          have hr := hrise hin hk.accepted
          exact hfin _ (riseS_len hk.members _ hr) (if_neg hin)
      · rw [if_pos (by simp [h3])]
        exact ⟨_, rfl, by simp [CanA, h3], by simp⟩
    · have h2 : (a.Phase < 2) ∨ (¬ (b = a.Ballot)) := by
        by_cases h : a.Phase < 2
        · exact .inl h
        · exact .inr fun hh => h1 ⟨by omega, hh⟩
      rw [if_neg (fun h => h h2)]
      simp only [Option.bind_some]
      rw [if_pos (.inl h2)]
      exact ⟨_, rfl, ⟨fun h => by simp at h, fun h => absurd ⟨h.2.1, h.2.2.1⟩ h1⟩, by simp⟩
  · have h0 : e ≠ 0 := fun h => hva (hv.1 h)
    rw [if_pos h0]
    exact ⟨_, rfl, ⟨fun h => absurd h h0, fun h => absurd h.1 hva⟩, fun h => absurd h h0⟩
theorem acc_mem (a : TAttempt) (n x : Int) : x ∈ (acceptedS a n).Accepted ↔ x = n ∨ x ∈ a.Accepted := by
  unfold acceptedS
  dsimp only
  split
  · rename_i h
    constructor
    · exact .inr
    · rintro (rfl | h2)
      · exact h
      · exact h2
  · exact insI_keys n x _
theorem accepted_kept {a : TAttempt} {n : Int} (h : CanA a a.Ballot n) : Valid (acceptedS a n) ∧ a.Phase ≤ (acceptedS a n).Phase := by
  obtain ⟨hv, h1, _, h3⟩ := h
  have hk := hv.kept (by omega)
  have hph : a.Phase = 2 ∨ a.Phase = 3 := by
    unfold Valid at hv
    rw [if_neg (by omega)] at hv
    rcases hv.1 with h | h | h
    · omega
    · exact .inl h
    · exact .inr h
  have hval : a.Value = bestS a.Promises a.Wish 0 := by
    rcases hk.value with h | h
    · omega
    · exact h
  have hmem := acc_mem a n
  have hrise : riseS a.Members none (acceptedS a n).Accepted = true := by
    unfold acceptedS
    dsimp only
    split
    · exact hk.accepted
    · rename_i hin
      have := ins_rise (fun x : Int => x) a.Members n h3 a.Accepted none trivial (by simpa using hin)
      simp only [List.map_id'] at this
      exact this hk.accepted
  have hmono : a.Phase = 3 → mostS a.Members (acceptedS a n).Accepted = true := by
    intro h
    refine most_mono (l := a.Accepted) (fun x hx => (hmem x).2 (.inr hx)) ?_
    rw [hk.chosen, h]; rfl
  have hphase : (acceptedS a n).Phase = if mostS a.Members (acceptedS a n).Accepted = true then 3 else a.Phase := rfl
  have hp2 : (acceptedS a n).Phase = 2 ∨ (acceptedS a n).Phase = 3 := by
    rw [hphase]
    split
    · exact .inr rfl
    · exact hph
  have hmost : mostS a.Members (acceptedS a n).Accepted = ((acceptedS a n).Phase == 3) := by
    rw [hphase]
    cases hm : mostS a.Members (acceptedS a n).Accepted with
    | true => simp
    | false =>
      have : a.Phase ≠ 3 := fun h => by rw [hmono h] at hm; cases hm
      simp [this]
  refine ⟨?_, ?_⟩
  · unfold Valid
    rw [if_neg (by omega)]
    refine ⟨.inr hp2, ⟨hk.ballot, hk.members, hk.wish, hk.nodes, hrise, hk.may, ?_, hmost, .inr hval⟩⟩
    show mostS a.Members (a.Promises.map TPromise.Node) = _
    rw [hk.most]
    rw [decide_eq_decide]
    omega
  · rw [hphase]
    split <;> omega
end Go.Proofs
end
section
namespace Go.Proofs
open Go.Tm
set_option linter.unusedSimpArgs false
structure Px where
  acc : Nat → Int → List UInt8 → Prop
  told : Int → List UInt8 → Prop
  vt : Nat → TVote
  tr : Nat → TAttempt
  mailP : Nat → Int → Int → List UInt8 → Prop
  mailA : Int → List UInt8 → Prop
  mailT : Nat → Int → Prop
  ch : List UInt8 → Prop
def ownB (b : Int) : Nat := (b.tmod 8).toNat
def upd {α : Type} (f : Nat → α) (n : Nat) (v : α) : Nat → α := fun i => if i = n then v else f i
def PromOK (x : Px) (i : Nat) (b p : Int) (v : List UInt8) : Prop :=
  b ≤ (x.vt i).Promised ∧ (∀ c u, x.acc i c u → c < b → c ≤ p) ∧ (p ≠ 0 → x.acc i p v)
def Safe (ms : List Int) (x : Px) (b : Int) (v : List UInt8) : Prop :=
  ∃ (Q : List Int) (p : Int), mostS ms Q = true ∧ (∀ i ∈ Q, b ≤ (x.vt i.toNat).Promised ∧ ∀ c u, x.acc i.toNat c u → c < b → c ≤ p) ∧ (p ≠ 0 → p < b ∧ x.told p v)
structure TryOK (ms : List Int) (W : List UInt8 → Prop) (x : Px) (n : Nat) (a : TAttempt) : Prop where
  own : ownB a.Ballot = n
  pos : 0 < a.Ballot
  le : a.Ballot ≤ (x.vt n).Promised
  wish : W a.Wish
  mem : a.Members = ms
  prom : ∀ p ∈ a.Promises, PromOK x p.Node.toNat a.Ballot p.Ballot p.Value
  acc : ∀ i ∈ a.Accepted, ∃ v, x.acc i.toNat a.Ballot v
  ask : a.Phase = 1 → ∀ v, ¬ x.told a.Ballot v
  tell : a.Phase ≠ 1 → x.told a.Ballot a.Value
structure Inv (ms : List Int) (W : List UInt8 → Prop) (x : Px) : Prop where
  acc : ∀ i b v, x.acc i b v → x.told b v
  one : ∀ b v u, x.told b v → x.told b u → v = u
  pos : ∀ b v, x.told b v → 0 < b
  top : ∀ i b v, x.acc i b v → b ≤ (x.vt i).Ballot
  prom : ∀ i, (x.vt i).Ballot ≤ (x.vt i).Promised
  last : ∀ i, (x.vt i).Ballot ≠ 0 → x.acc i (x.vt i).Ballot (x.vt i).Value
  own : ∀ b v, x.told b v → b ≤ (x.vt (ownB b)).Promised
  safe : ∀ b v, x.told b v → Safe ms x b v
  wish : ∀ b v, x.told b v → W v
  mailP : ∀ i b p v, x.mailP i b p v → PromOK x i b p v
  mailA : ∀ b v, x.mailA b v → x.told b v
  mailT : ∀ i b, x.mailT i b → ∃ v, x.acc i b v
  tries : ∀ n, (x.tr n).Phase ≠ 0 → TryOK ms W x n (x.tr n)
  ch : ∀ v, x.ch v → ∃ (b : Int) (Q : List Int), mostS ms Q = true ∧ x.told b v ∧ ∀ i ∈ Q, x.acc i.toNat b v
theorem filter_sum {α : Type} (p q : α → Bool) (l : List α) : (l.filter p).length + (l.filter q).length ≤ l.length + (l.filter fun x => p x && q x).length := by
  induction l with
  | nil => simp
  | cons y l ih =>
    simp only [List.filter_cons, List.length_cons]
    cases p y <;> cases q y <;> simp <;> omega
theorem most_meet {ms Q R : List Int} (h1 : mostS ms Q = true) (h2 : mostS ms R = true) : ∃ i, i ∈ Q ∧ i ∈ R := by
  unfold mostS at h1 h2
  have h1 := of_decide_eq_true h1
  have h2 := of_decide_eq_true h2
  have h3 := filter_sum (hasI Q) (hasI R) ms
  have h4 : 0 < (ms.filter fun x => hasI Q x && hasI R x).length := by omega
  obtain ⟨i, hi⟩ := List.exists_mem_of_length_pos h4
  have h5 := (List.mem_filter.1 hi).2
  rw [Bool.and_eq_true] at h5
  exact ⟨i, by simpa [hasI] using h5.1, by simpa [hasI] using h5.2⟩
theorem Inv.later {ms W x} (h : Inv ms W x) {b v} {Q : List Int} (hQ : mostS ms Q = true) (hA : ∀ i ∈ Q, x.acc i.toNat b v) : ∀ (k : Nat) (c : Int) u, c.toNat ≤ k → b < c → x.told c u → u = v := by
  intro k
  induction k with
  | zero =>
    intro c u hk _ ht
    have := h.pos c u ht
    omega
  | succ k ih =>
    intro c u hk hbc ht
    obtain ⟨R, p, hR, hi, hp⟩ := h.safe c u ht
    obtain ⟨i, hiQ, hiR⟩ := most_meet hQ hR
    have ha := hA i hiQ
    have hb := h.pos b v (h.acc _ _ _ ha)
    have hbp := (hi i hiR).2 b v ha hbc
    have hp := hp (by omega)
    have htb := h.acc _ _ _ ha
    by_cases e : b = p
    · exact h.one p u v hp.2 (e ▸ htb)
    · exact ih p u (by omega) (by omega) hp.2
theorem Inv.chosen {ms W x} (h : Inv ms W x) {u v} (hu : x.ch u) (hv : x.ch v) : u = v := by
  obtain ⟨b, Q, hQ, hb, hA⟩ := h.ch u hu
  obtain ⟨c, R, hR, hc, hB⟩ := h.ch v hv
  rcases Int.lt_trichotomy b c with hlt | rfl | hlt
  · exact (h.later hQ hA c.toNat c v (Nat.le_refl _) hlt hc).symm
  · exact h.one b u v hb hc
  · exact h.later hR hB b.toNat b u (Nat.le_refl _) hlt hb
structure Grow (x y : Px) : Prop where
  prom : ∀ i, (x.vt i).Promised ≤ (y.vt i).Promised
  acc : ∀ i b v, x.acc i b v → y.acc i b v
  told : ∀ b v, x.told b v → y.told b v
  new : ∀ i b v, y.acc i b v → x.acc i b v ∨ (x.vt i).Promised ≤ b
theorem Grow.promOK {x y} (g : Grow x y) {i b p v} (h : PromOK x i b p v) : PromOK y i b p v := by
  refine ⟨Int.le_trans h.1 (g.prom i), fun c u hc hlt => ?_, fun hp => g.acc _ _ _ (h.2.2 hp)⟩
  rcases g.new i c u hc with h1 | h1
  · exact h.2.1 c u h1 hlt
  · have := h.1
    omega
theorem Grow.safe {ms x y} (g : Grow x y) {b v} (h : Safe ms x b v) : Safe ms y b v := by
  obtain ⟨Q, p, hQ, hi, hp⟩ := h
  refine ⟨Q, p, hQ, fun i hq => ⟨Int.le_trans (hi i hq).1 (g.prom _), fun c u hc hlt => ?_⟩, fun h0 => ⟨(hp h0).1, g.told _ _ (hp h0).2⟩⟩
  rcases g.new _ c u hc with h1 | h1
  · exact (hi i hq).2 c u h1 hlt
  · have := (hi i hq).1
    omega
theorem Grow.tryOK {ms W x y} (g : Grow x y) {n a} (ht : ∀ b v, y.told b v → x.told b v) (h : TryOK ms W x n a) : TryOK ms W y n a :=
  ⟨h.own, h.pos, Int.le_trans h.le (g.prom n), h.wish, h.mem, fun p hp => g.promOK (h.prom p hp), fun i hi => let ⟨v, hv⟩ := h.acc i hi; ⟨v, g.acc _ _ _ hv⟩, fun e v hv => h.ask e v (ht _ _ hv), fun e => g.told _ _ (h.tell e)⟩
theorem Inv.mail {ms W x} (h : Inv ms W x) {P : Nat → Int → Int → List UInt8 → Prop} {A : Int → List UInt8 → Prop} {T : Nat → Int → Prop} (hP : ∀ i b p v, P i b p v → x.mailP i b p v ∨ PromOK x i b p v) (hA : ∀ b v, A b v → x.mailA b v ∨ x.told b v) (hT : ∀ i b, T i b → x.mailT i b ∨ ∃ v, x.acc i b v) : Inv ms W { x with mailP := P, mailA := A, mailT := T } where
  acc := h.acc
  one := h.one
  pos := h.pos
  top := h.top
  prom := h.prom
  last := h.last
  own := h.own
  safe := h.safe
  wish := h.wish
  mailP i b p v hm := by
    rcases hP i b p v hm with h1 | h1
    · exact h.mailP _ _ _ _ h1
    · exact h1
  mailA b v hm := by
    rcases hA b v hm with h1 | h1
    · exact h.mailA _ _ h1
    · exact h1
  mailT i b hm := by
    rcases hT i b hm with h1 | h1
    · exact h.mailT _ _ h1
    · exact h1
  tries n hn := let t := h.tries n hn; ⟨t.own, t.pos, t.le, t.wish, t.mem, t.prom, t.acc, t.ask, t.tell⟩
  ch := h.ch
theorem Inv.try_ {ms W x} (h : Inv ms W x) (n : Nat) (a : TAttempt) (ha : a.Phase ≠ 0 → TryOK ms W x n a) : Inv ms W { x with tr := upd x.tr n a } where
  acc := h.acc
  one := h.one
  pos := h.pos
  top := h.top
  prom := h.prom
  last := h.last
  own := h.own
  safe := h.safe
  wish := h.wish
  mailP := h.mailP
  mailA := h.mailA
  mailT := h.mailT
  tries i hi := by
    by_cases e : i = n
    · subst e
      simp only [upd, if_pos] at hi ⊢
      let t := ha hi
      exact ⟨t.own, t.pos, t.le, t.wish, t.mem, t.prom, t.acc, t.ask, t.tell⟩
    · simp only [upd, if_neg e] at hi ⊢
      let t := h.tries i hi
      exact ⟨t.own, t.pos, t.le, t.wish, t.mem, t.prom, t.acc, t.ask, t.tell⟩
  ch := h.ch
theorem Inv.choose {ms W x} (h : Inv ms W x) {C : List UInt8 → Prop} (hC : ∀ v, C v → x.ch v ∨ ∃ (b : Int) (Q : List Int), mostS ms Q = true ∧ x.told b v ∧ ∀ i ∈ Q, x.acc i.toNat b v) : Inv ms W { x with ch := C } where
  acc := h.acc
  one := h.one
  pos := h.pos
  top := h.top
  prom := h.prom
  last := h.last
  own := h.own
  safe := h.safe
  wish := h.wish
  mailP := h.mailP
  mailA := h.mailA
  mailT := h.mailT
  tries n hn := let t := h.tries n hn; ⟨t.own, t.pos, t.le, t.wish, t.mem, t.prom, t.acc, t.ask, t.tell⟩
  ch v hv := by
    rcases hC v hv with h1 | h1
    · exact h.ch _ h1
    · exact h1
theorem Inv.prepare {ms W x} (h : Inv ms W x) (n : Nat) (b : Int) (hb : (x.vt n).Promised ≤ b) : Inv ms W { x with vt := upd x.vt n { x.vt n with Promised := b } } := by
  have g : Grow x { x with vt := upd x.vt n { x.vt n with Promised := b } } := by
    refine ⟨fun i => ?_, fun _ _ _ h => h, fun _ _ h => h, fun _ _ _ h => .inl h⟩
    by_cases e : i = n
    · subst e; simp only [upd, if_pos]; exact hb
    · simp only [upd, if_neg e]; exact Int.le_refl _
  have hB : ∀ i, (upd x.vt n { x.vt n with Promised := b } i).Ballot = (x.vt i).Ballot ∧ (upd x.vt n { x.vt n with Promised := b } i).Value = (x.vt i).Value := by
    intro i
    by_cases e : i = n
    · subst e; simp only [upd, if_pos]; exact ⟨trivial, trivial⟩
    · simp only [upd, if_neg e]; exact ⟨trivial, trivial⟩
  exact { acc := h.acc, one := h.one, pos := h.pos
          top := fun i c v hc => (hB i).1.symm ▸ h.top i c v hc
          prom := fun i => (hB i).1.symm ▸ Int.le_trans (h.prom i) (g.prom i)
          last := fun i hi => by
            have e := hB i
            show x.acc i (upd x.vt n { x.vt n with Promised := b } i).Ballot (upd x.vt n { x.vt n with Promised := b } i).Value
            rw [e.1, e.2]
            exact h.last i (fun h0 => hi (e.1.trans h0))
          own := fun c v hc => Int.le_trans (h.own c v hc) (g.prom _)
          safe := fun c v hc => g.safe (h.safe c v hc)
          wish := h.wish
          mailP := fun i c p v hm => g.promOK (h.mailP i c p v hm)
          mailA := h.mailA, mailT := h.mailT
          tries := fun i hi => g.tryOK (fun _ _ h => h) (h.tries i hi)
          ch := h.ch }
theorem Inv.accept {ms W x} (h : Inv ms W x) (n : Nat) (b : Int) (v : List UInt8) (hb : (x.vt n).Promised ≤ b) (ht : x.told b v) : Inv ms W { x with vt := upd x.vt n ⟨b, b, v⟩, acc := fun i c u => x.acc i c u ∨ (i = n ∧ c = b ∧ u = v) } := by
  have g : Grow x { x with vt := upd x.vt n ⟨b, b, v⟩, acc := fun i c u => x.acc i c u ∨ (i = n ∧ c = b ∧ u = v) } := by
    refine ⟨fun i => ?_, fun _ _ _ h => .inl h, fun _ _ h => h, fun i c u h => ?_⟩
    · by_cases e : i = n
      · subst e; simp only [upd, if_pos]; exact hb
      · simp only [upd, if_neg e]; exact Int.le_refl _
    · rcases h with h | ⟨rfl, rfl, rfl⟩
      · exact .inl h
      · exact .inr hb
  exact { acc := fun i c u hc => by
            rcases hc with hc | ⟨_, rfl, rfl⟩
            · exact h.acc _ _ _ hc
            · exact ht
          one := h.one, pos := h.pos
          top := fun i c u hc => by
            by_cases e : i = n
            · subst e
              simp only [upd, if_pos]
              rcases hc with hc | ⟨_, rfl, rfl⟩
              · have := h.top _ _ _ hc; have := h.prom i; omega
              · exact Int.le_refl _
            · simp only [upd, if_neg e]
              rcases hc with hc | ⟨rfl, _⟩
              · exact h.top _ _ _ hc
              · exact absurd rfl e
          prom := fun i => by
            by_cases e : i = n
            · subst e; simp only [upd, if_pos]; exact Int.le_refl _
            · simp only [upd, if_neg e]; exact h.prom i
          last := fun i hi => by
            by_cases e : i = n
            · subst e; simp only [upd, if_pos]; exact .inr ⟨trivial, trivial, trivial⟩
            · simp only [upd, if_neg e] at hi ⊢; exact .inl (h.last i hi)
          own := fun c u hc => Int.le_trans (h.own c u hc) (g.prom _)
          safe := fun c u hc => g.safe (h.safe c u hc)
          wish := h.wish
          mailP := fun i c p u hm => g.promOK (h.mailP i c p u hm)
          mailA := h.mailA
          mailT := fun i c hm => let ⟨u, hu⟩ := h.mailT i c hm; ⟨u, .inl hu⟩
          tries := fun i hi => g.tryOK (fun _ _ h => h) (h.tries i hi)
          ch := fun u hu => let ⟨c, Q, hQ, hc, hA⟩ := h.ch u hu; ⟨c, Q, hQ, hc, fun i hi => .inl (hA i hi)⟩ }
theorem Inv.tell {ms W x} (h : Inv ms W x) (n : Nat) (b : Int) (v : List UInt8) (a : TAttempt) (hnt : ∀ u, ¬ x.told b u) (hs : Safe ms x b v) (hw : W v) (hv : a.Value = v) (hb : a.Ballot = b) (ha1 : a.Phase ≠ 1) (hown : ownB b = n) (hpos : 0 < b) (hle : b ≤ (x.vt n).Promised) (hwish : W a.Wish) (hmem : a.Members = ms) (hprom : ∀ p ∈ a.Promises, PromOK x p.Node.toNat b p.Ballot p.Value) (hacc : ∀ i ∈ a.Accepted, ∃ u, x.acc i.toNat b u) : Inv ms W { x with told := fun c u => x.told c u ∨ (c = b ∧ u = v), tr := upd x.tr n a } := by
  have g : Grow x { x with told := fun c u => x.told c u ∨ (c = b ∧ u = v), tr := upd x.tr n a } := ⟨fun _ => Int.le_refl _, fun _ _ _ h => h, fun _ _ h => .inl h, fun _ _ _ h => .inl h⟩
  exact { acc := fun i c u hc => .inl (h.acc i c u hc)
          one := fun c u t hu ht => by
            rcases hu with hu | ⟨rfl, rfl⟩ <;> rcases ht with ht | ⟨ht1, ht2⟩
            · exact h.one _ _ _ hu ht
            · exact absurd (ht1 ▸ hu) (hnt _)
            · exact absurd ht (hnt _)
            · exact ht2.symm
          pos := fun c u hc => by
            rcases hc with hc | ⟨rfl, rfl⟩
            · exact h.pos _ _ hc
            · exact hpos
          top := h.top, prom := h.prom, last := h.last
          own := fun c u hc => by
            rcases hc with hc | ⟨rfl, rfl⟩
            · exact h.own _ _ hc
            · show c ≤ (x.vt (ownB c)).Promised
              rw [hown]; exact hle
          safe := fun c u hc => by
            rcases hc with hc | ⟨rfl, rfl⟩
            · exact g.safe (h.safe _ _ hc)
            · exact g.safe hs
          wish := fun c u hc => by
            rcases hc with hc | ⟨rfl, rfl⟩
            · exact h.wish _ _ hc
            · exact hw
          mailP := fun i c p u hm => g.promOK (h.mailP i c p u hm)
          mailA := fun c u hm => .inl (h.mailA c u hm)
          mailT := h.mailT
          tries := fun i hi => by
            by_cases e : i = n
            · subst e
              simp only [upd, if_pos] at hi ⊢
              subst hb
              exact ⟨hown, hpos, hle, hwish, hmem, fun p hp => g.promOK (hprom p hp), hacc, fun h1 => absurd h1 ha1, fun _ => .inr ⟨rfl, hv⟩⟩
            · simp only [upd, if_neg e] at hi ⊢
              have t := h.tries i hi
              refine ⟨t.own, t.pos, t.le, t.wish, t.mem, fun p hp => g.promOK (t.prom p hp), t.acc, fun h1 u hu => ?_, fun h1 => .inl (t.tell h1)⟩
              rcases hu with hu | ⟨hu, _⟩
              · exact t.ask h1 u hu
              · exact e (t.own.symm.trans ((congrArg ownB hu).trans hown))
          ch := fun u hu => let ⟨c, Q, hQ, hc, hA⟩ := h.ch u hu; ⟨c, Q, hQ, .inl hc, hA⟩ }
theorem best_spec (l : List TPromise) : ∀ (s : List UInt8) (n : Int), ∃ p, n ≤ p ∧ (∀ q ∈ l, q.Ballot ≤ p) ∧ ((p = n ∧ bestS l s n = s) ∨ (n < p ∧ ∃ q ∈ l, q.Ballot = p ∧ bestS l s n = q.Value)) := by
  induction l with
  | nil => exact fun s n => ⟨n, Int.le_refl _, by simp, .inl ⟨rfl, rfl⟩⟩
  | cons y l ih =>
    intro s n
    by_cases e : y.Ballot > n
    · obtain ⟨p, h1, h2, h3⟩ := ih y.Value y.Ballot
      refine ⟨p, by omega, fun q hq => ?_, .inr ⟨by omega, ?_⟩⟩
      · rcases List.mem_cons.1 hq with rfl | hq
        · exact h1
        · exact h2 q hq
      · rw [bestS, if_pos e]
        rcases h3 with ⟨rfl, h3⟩ | ⟨_, q, hq, h4, h5⟩
        · exact ⟨y, List.mem_cons_self .., rfl, h3⟩
        · exact ⟨q, List.mem_cons_of_mem _ hq, h4, h5⟩
    · obtain ⟨p, h1, h2, h3⟩ := ih s n
      refine ⟨p, h1, fun q hq => ?_, ?_⟩
      · rcases List.mem_cons.1 hq with rfl | hq
        · omega
        · exact h2 q hq
      · rw [bestS, if_neg e]
        rcases h3 with h3 | ⟨h0, q, hq, h4⟩
        · exact .inl h3
        · exact .inr ⟨h0, q, List.mem_cons_of_mem _ hq, h4⟩
theorem Inv.best {ms W x} (h : Inv ms W x) (b : Int) (l : List TPromise) (wish : List UInt8) (hm : mostS ms (l.map TPromise.Node) = true) (hp : ∀ p ∈ l, PromOK x p.Node.toNat b p.Ballot p.Value) (hy : ∀ p ∈ l, MayS p b) (hw : W wish) : Safe ms x b (bestS l wish 0) ∧ W (bestS l wish 0) := by
  obtain ⟨p, h1, h2, h3⟩ := best_spec l wish 0
  have hQ : ∀ i ∈ l.map TPromise.Node, b ≤ (x.vt i.toNat).Promised ∧ ∀ c u, x.acc i.toNat c u → c < b → c ≤ p := by
    intro i hi
    obtain ⟨q, hq, rfl⟩ := List.mem_map.1 hi
    have t := hp q hq
    exact ⟨t.1, fun c u hc hlt => Int.le_trans (t.2.1 c u hc hlt) (h2 q hq)⟩
  rcases h3 with ⟨rfl, h3⟩ | ⟨h0, q, hq, h4, h5⟩
  · rw [h3]
    exact ⟨⟨_, 0, hm, hQ, fun h => absurd rfl h⟩, hw⟩
  · have ha := (hp q hq).2.2 (by omega)
    have ht := h.acc _ _ _ ha
    have hb := hy q hq
    unfold MayS at hb
    rw [if_neg (by omega)] at hb
    rw [h5]
    exact ⟨⟨_, p, hm, hQ, fun _ => ⟨by omega, h4 ▸ ht⟩⟩, h.wish _ _ ht⟩
end Go.Proofs
end
section
namespace Go.Proofs
open Go.Tm
set_option linter.unusedSimpArgs false
def VOk (v : TVote) : Prop := (v.Promised = 0 ∨ BOk v.Promised) ∧ (if v.Ballot = 0 then v.Value = [] else BOk v.Ballot ∧ v.Ballot ≤ v.Promised ∧ v.Value.length ≤ 1024)
instance (v : TVote) : Decidable (VOk v) := by unfold VOk; infer_instance
def AskedS (v : TVote) (b : Int) (t : List UInt8) : Prop := VOk v ∧ BOk b ∧ t.length ≤ 1024 ∧ v.Promised ≤ b
instance (v : TVote) (b : Int) (t : List UInt8) : Decidable (AskedS v b t) := by unfold AskedS; infer_instance
noncomputable instance (a : TAttempt) : Decidable (Valid a) := Classical.propDecidable _
noncomputable instance (a : TAttempt) (b : Int) (p : TPromise) : Decidable (CanP a b p) := Classical.propDecidable _
noncomputable instance (a : TAttempt) (b n : Int) : Decidable (CanA a b n) := Classical.propDecidable _
def tellS (w : TWorld) (m : TMail) : TWorld := { w with Mail := w.Mail ++ (w.Members.filter fun to => decide (to ≠ m.From)).map fun to => { m with To := to } }
abbrev vtW (w : TWorld) (n : Int) : TVote := w.Votes.getD n.toNat default
abbrev trW (w : TWorld) (n : Int) : TAttempt := w.Tries.getD n.toNat default
noncomputable def takenW (w : TWorld) (n b q : Int) : TWorld :=
  if CanA (trW w n) b q then { w with Chosen := if (acceptedS (trW w n) q).Phase = 3 ∧ (trW w n).Phase ≠ 3 then w.Chosen ++ [⟨n, (acceptedS (trW w n) q).Value⟩] else w.Chosen, Tries := w.Tries.set n.toNat (acceptedS (trW w n) q) } else w
noncomputable def ownVote (w : TWorld) (n b : Int) (v : List UInt8) : TWorld :=
  if n ∈ w.Members ∧ AskedS (vtW w n) b v then takenW { w with Votes := w.Votes.set n.toNat ⟨b, b, v⟩ } n b n else w
noncomputable def promisedW (w : TWorld) (n b : Int) (p : TPromise) : TWorld :=
  if CanP (trW w n) b p then
    if (promisedS (trW w n) p).Phase = 1 then { w with Tries := w.Tries.set n.toNat (promisedS (trW w n) p) }
    else ownVote (tellS { w with Tries := w.Tries.set n.toNat (promisedS (trW w n) p) } ⟨n, 0, 3, 0, 0, b, 0, (promisedS (trW w n) p).Value, 0, 0⟩) n b (promisedS (trW w n) p).Value
  else w
noncomputable def beginW (w : TWorld) (n b : Int) (t : List UInt8) : TWorld :=
  promisedW (tellS { w with Votes := w.Votes.set n.toNat { vtW w n with Promised := b }, Tries := w.Tries.set n.toNat ⟨1, b, w.Members, t, [], [], []⟩ } ⟨n, 0, 1, 0, 0, b, 0, [], 0, 0⟩) n b ⟨n, (vtW w n).Ballot, (vtW w n).Value⟩
def addMail (w : TWorld) (m : TMail) : TWorld := { w with Mail := w.Mail ++ [m] }
noncomputable def comeW (w : TWorld) (m : TMail) : TWorld :=
  if m.Kind = 2 then promisedW w m.To m.Ballot ⟨m.From, m.Prior, m.Value⟩
  else if m.Kind = 4 then takenW w m.To m.Ballot m.From
  else if m.Kind = 5 then w
  else if m.Kind = 1 then
    if AskedS (vtW w m.To) m.Ballot [] then addMail { w with Votes := w.Votes.set m.To.toNat { vtW w m.To with Promised := m.Ballot } } ⟨m.To, m.From, 2, 0, 0, m.Ballot, (vtW w m.To).Ballot, (vtW w m.To).Value, 0, 0⟩
    else addMail w ⟨m.To, m.From, 5, 0, 0, m.Ballot, (vtW w m.To).Promised, [], 0, 0⟩
  else if AskedS (vtW w m.To) m.Ballot m.Value then addMail { w with Votes := w.Votes.set m.To.toNat ⟨m.Ballot, m.Ballot, m.Value⟩ } ⟨m.To, m.From, 4, 0, 0, m.Ballot, 0, [], 0, 0⟩
  else addMail w ⟨m.To, m.From, 5, 0, 0, m.Ballot, (vtW w m.To).Promised, [], 0, 0⟩
def pxOf (w : TWorld) (acc : Nat → Int → List UInt8 → Prop) (told : Int → List UInt8 → Prop) : Px where
  acc := acc
  told := told
  vt := fun i => w.Votes.getD i default
  tr := fun i => w.Tries.getD i default
  mailP := fun i b p v => ∃ m ∈ w.Mail, m.Kind = 2 ∧ m.From.toNat = i ∧ m.Ballot = b ∧ m.Prior = p ∧ m.Value = v
  mailA := fun b v => ∃ m ∈ w.Mail, m.Kind = 3 ∧ m.Ballot = b ∧ m.Value = v
  mailT := fun i b => ∃ m ∈ w.Mail, m.Kind = 4 ∧ m.From.toNat = i ∧ m.Ballot = b
  ch := fun v => ∃ c ∈ w.Chosen, c.Value = v
theorem getD_upd {α : Type} (l : List α) (n : Nat) (a d : α) (h : n < l.length) : (fun i => (l.set n a).getD i d) = upd (fun i => l.getD i d) n a := by
  funext i
  unfold upd
  by_cases e : i = n
  · subst e
    rw [if_pos rfl]
    simp [List.getD, h]
  · rw [if_neg e]
    simp [List.getD, List.getElem?_set_ne (Ne.symm e)]
theorem px_try (w : TWorld) (acc told) (n : Nat) (a : TAttempt) (h : n < w.Tries.length) : pxOf { w with Tries := w.Tries.set n a } acc told = { pxOf w acc told with tr := upd (pxOf w acc told).tr n a } := by
  unfold pxOf
  simp only [getD_upd _ _ _ _ h]
theorem px_vote (w : TWorld) (acc told) (n : Nat) (a : TVote) (h : n < w.Votes.length) : pxOf { w with Votes := w.Votes.set n a } acc told = { pxOf w acc told with vt := upd (pxOf w acc told).vt n a } := by
  unfold pxOf
  simp only [getD_upd _ _ _ _ h]
structure Hist (ms : List Int) (W : List UInt8 → Prop) (w : TWorld) (acc : Nat → Int → List UInt8 → Prop) (told : Int → List UInt8 → Prop) : Prop where
  mem : w.Members = ms
  vts : w.Votes.length = 6
  trs : w.Tries.length = 6
  inv : Inv ms W (pxOf w acc told)
def Lives (ms : List Int) (W : List UInt8 → Prop) (w : TWorld) : Prop := ∃ acc told, Hist ms W w acc told
theorem Hist.mails {ms W w acc told} (h : Hist ms W w acc told) (M : List TMail) (hM : ∀ m ∈ M, m ∈ w.Mail ∨ ((m.Kind = 2 → PromOK (pxOf w acc told) m.From.toNat m.Ballot m.Prior m.Value) ∧ (m.Kind = 3 → told m.Ballot m.Value) ∧ (m.Kind = 4 → ∃ v, acc m.From.toNat m.Ballot v))) : Hist ms W { w with Mail := M } acc told := by
  refine ⟨h.mem, h.vts, h.trs, h.inv.mail (x := pxOf w acc told) ?_ ?_ ?_⟩
  · rintro i b p v ⟨m, hm, h1, rfl, rfl, rfl, rfl⟩
    rcases hM m hm with h2 | h2
    · exact .inl ⟨m, h2, h1, rfl, rfl, rfl, rfl⟩
    · exact .inr (h2.1 h1)
  · rintro b v ⟨m, hm, h1, rfl, rfl⟩
    rcases hM m hm with h2 | h2
    · exact .inl ⟨m, h2, h1, rfl, rfl⟩
    · exact .inr (h2.2.1 h1)
  · rintro i b ⟨m, hm, h1, rfl, rfl⟩
    rcases hM m hm with h2 | h2
    · exact .inl ⟨m, h2, h1, rfl, rfl⟩
    · exact .inr (h2.2.2 h1)
theorem Hist.tell {ms W w acc told} (h : Hist ms W w acc told) (m : TMail) (h2 : m.Kind ≠ 2) (h3 : m.Kind = 3 → told m.Ballot m.Value) (h4 : m.Kind ≠ 4) : Hist ms W (tellS w m) acc told := by
  refine h.mails _ fun k hk => ?_
  rcases List.mem_append.1 hk with hk | hk
  · exact .inl hk
  · obtain ⟨to, _, rfl⟩ := List.mem_map.1 hk
    exact .inr ⟨fun h => absurd h h2, h3, fun h => absurd h h4⟩
theorem Hist.taken {ms W w acc told} (h : Hist ms W w acc told) (n b q : Int) (hn : 0 ≤ n ∧ n < 6) (ha : ∃ v, acc q.toNat b v) : Hist ms W (takenW w n b q) acc told := by
  unfold takenW
  split
  case isFalse => exact h
  rename_i hc
  have hlt : n.toNat < w.Tries.length := by rw [h.trs]; omega
  have hph : (trW w n).Phase ≠ 0 := by have := hc.2.1; omega
  have t : TryOK ms W (pxOf w acc told) n.toNat (trW w n) := h.inv.tries n.toNat hph
  have hb : b = (trW w n).Ballot := hc.2.2.1
  have hk := accepted_kept (a := trW w n) (n := q) ⟨hc.1, hc.2.1, rfl, hc.2.2.2⟩
  have htold := t.tell (by have := hc.2.1; omega)
  have e1 : (acceptedS (trW w n) q).Ballot = (trW w n).Ballot := rfl
  have e2 : (acceptedS (trW w n) q).Value = (trW w n).Value := rfl
  have hacc : ∀ i ∈ (acceptedS (trW w n) q).Accepted, acc i.toNat b (trW w n).Value := by
    intro i hi
    have : ∃ v, acc i.toNat b v := by
      rcases (acc_mem _ _ _).1 hi with rfl | hi
      · exact ha
      · rw [hb]; exact t.acc i hi
    obtain ⟨v, hv⟩ := this
    have := h.inv.one b v (trW w n).Value (h.inv.acc _ _ _ hv) (by rw [hb]; exact htold)
    rw [← this]; exact hv
  have t2 : TryOK ms W (pxOf w acc told) n.toNat (acceptedS (trW w n) q) := by
    refine ⟨t.own, t.pos, t.le, t.wish, t.mem, t.prom, fun i hi => ⟨(trW w n).Value, ?_⟩, fun h1 => ?_, fun _ => htold⟩
    · rw [e1, ← hb]; exact hacc i hi
    · have := hk.2
      have := hc.2.1
      omega
  have i1 := h.inv.try_ n.toNat (acceptedS (trW w n) q) fun _ => t2
  rw [← px_try w acc told _ _ hlt] at i1
  refine ⟨h.mem, h.vts, by simpa using h.trs, ?_⟩
  refine i1.choose ?_
  rintro v ⟨c, hcm, rfl⟩
  split at hcm
  · rename_i h3
    rcases List.mem_append.1 hcm with hcm | hcm
    · exact .inl ⟨c, hcm, rfl⟩
    · rw [List.mem_singleton] at hcm
      subst hcm
      refine .inr ⟨b, (acceptedS (trW w n) q).Accepted, ?_, ?_, fun i hi => hacc i hi⟩
      · have hv := hk.1.kept (by rw [h3.1]; decide)
        have := hv.chosen
        rw [h3.1] at this
        have e3 : (acceptedS (trW w n) q).Members = ms := t2.mem
        rw [e3] at this
        exact this
      · rw [hb]; exact htold
  · exact .inl ⟨c, hcm, rfl⟩
theorem Hist.ownVote {ms W w acc told} (h : Hist ms W w acc told) (n b : Int) (v : List UInt8) (hn : 0 ≤ n ∧ n < 6) (ht : told b v) : ∃ acc2, Hist ms W (ownVote w n b v) acc2 told := by
  unfold Go.Proofs.ownVote
  split
  case isFalse => exact ⟨acc, h⟩
  rename_i hc
  have hlt : n.toNat < w.Votes.length := by rw [h.vts]; omega
  have i1 := h.inv.accept n.toNat b v hc.2.2.2.2 ht
  have h2 : Hist ms W { w with Votes := w.Votes.set n.toNat ⟨b, b, v⟩ } (fun i c u => acc i c u ∨ (i = n.toNat ∧ c = b ∧ u = v)) told := by
    refine ⟨h.mem, by simpa using h.vts, h.trs, ?_⟩
    rw [px_vote w _ told _ _ hlt]
    exact i1
  exact ⟨_, h2.taken n b n hn ⟨v, .inr ⟨rfl, rfl, rfl⟩⟩⟩
theorem promisedS_in {a : TAttempt} {p : TPromise} (x : TPromise) (hx : x ∈ (promisedS a p).Promises) : x = p ∨ x ∈ a.Promises := by
  unfold promisedS withP at hx
  split at hx
  · exact .inr hx
  · split at hx
    · exact (ins_mem _ p x _).1 hx
    · exact (ins_mem _ p x _).1 hx
theorem promisedS_same (a : TAttempt) (p : TPromise) : (promisedS a p).Ballot = a.Ballot ∧ (promisedS a p).Members = a.Members ∧ (promisedS a p).Wish = a.Wish ∧ (promisedS a p).Accepted = a.Accepted := by
  unfold promisedS withP
  split
  · exact ⟨rfl, rfl, rfl, rfl⟩
  · split <;> exact ⟨rfl, rfl, rfl, rfl⟩
theorem Hist.promised {ms W w acc told} (h : Hist ms W w acc told) (n b : Int) (p : TPromise) (hn : 0 ≤ n ∧ n < 6) (hp : PromOK (pxOf w acc told) p.Node.toNat b p.Ballot p.Value) : Lives ms W (promisedW w n b p) := by
  unfold promisedW
  split
  case isFalse => exact ⟨acc, told, h⟩
  rename_i hc
  obtain ⟨hv, h1, hb, hpm, hmay⟩ := hc
  have hlt : n.toNat < w.Tries.length := by rw [h.trs]; omega
  have hph : (trW w n).Phase ≠ 0 := by omega
  have t : TryOK ms W (pxOf w acc told) n.toNat (trW w n) := h.inv.tries n.toNat hph
  have hk := promised_kept (a := trW w n) (p := p) ⟨hv, h1, rfl, hpm, hb ▸ hmay⟩
  obtain ⟨e1, e2, e3, e4⟩ := promisedS_same (trW w n) p
  have hprom : ∀ q ∈ (promisedS (trW w n) p).Promises, PromOK (pxOf w acc told) q.Node.toNat b q.Ballot q.Value := by
    intro q hq
    rcases promisedS_in q hq with rfl | hq
    · exact hp
    · rw [hb]; exact t.prom q hq
  split
  · rename_i h2
    have t2 : TryOK ms W (pxOf w acc told) n.toNat (promisedS (trW w n) p) := by
      refine ⟨e1 ▸ t.own, e1 ▸ t.pos, e1 ▸ t.le, e3 ▸ t.wish, e2.trans t.mem, fun q hq => ?_, fun i hi => ?_, fun _ => e1 ▸ t.ask h1, fun h3 => absurd h2 h3⟩
      · rw [e1, ← hb]; exact hprom q hq
      · rw [e1]; exact t.acc i (e4 ▸ hi)
    have i1 := h.inv.try_ n.toNat _ fun _ => t2
    rw [← px_try w acc told _ _ hlt] at i1
    exact ⟨acc, told, h.mem, h.vts, by simpa using h.trs, i1⟩
  · rename_i h2
    have hne : (promisedS (trW w n) p).Phase ≠ 0 := by
      unfold promisedS withP
      split
      · omega
      · split
        · simp
        · simpa using hph
    have k := hk.kept hne
    have hval : (promisedS (trW w n) p).Value = bestS (promisedS (trW w n) p).Promises (promisedS (trW w n) p).Wish 0 := by
      rcases k.value with h3 | h3
      · exact absurd h3 h2
      · exact h3
    have hmost : mostS ms ((promisedS (trW w n) p).Promises.map TPromise.Node) = true := by
      have := k.most
      rw [e2, show (trW w n).Members = ms from t.mem] at this
      rw [this]
      have h3 : (promisedS (trW w n) p).Phase = 2 ∨ (promisedS (trW w n) p).Phase = 1 ∨ (promisedS (trW w n) p).Phase = 0 ∨ (promisedS (trW w n) p).Phase = 3 := by
        unfold Valid at hk
        rw [if_neg hne] at hk
        rcases hk.1 with h | h | h
        · exact .inr (.inl h.1)
        · exact .inl h
        · exact .inr (.inr (.inr h))
      rcases h3 with h3 | h3 | h3 | h3
      · rw [h3]; rfl
      · exact absurd h3 h2
      · exact absurd h3 hne
      · rw [h3]; rfl
    have hs := h.inv.best b (promisedS (trW w n) p).Promises (promisedS (trW w n) p).Wish hmost hprom (fun q hq => by have := k.may q hq; rw [e1, ← hb] at this; exact this) (e3 ▸ t.wish)
    rw [← hval] at hs
    have i1 := h.inv.tell n.toNat b (promisedS (trW w n) p).Value (promisedS (trW w n) p) (hb ▸ t.ask h1) hs.1 hs.2 rfl (by rw [e1, hb]) h2 (hb ▸ t.own) (hb ▸ t.pos) (hb ▸ t.le) (e3 ▸ t.wish) (e2.trans t.mem) hprom (fun i hi => by rw [hb]; exact t.acc i (e4 ▸ hi))
    have h3 : Hist ms W { w with Tries := w.Tries.set n.toNat (promisedS (trW w n) p) } acc (fun c u => told c u ∨ (c = b ∧ u = (promisedS (trW w n) p).Value)) := by
      refine ⟨h.mem, h.vts, by simpa using h.trs, ?_⟩
      rw [px_try w acc _ _ _ hlt]
      exact i1
    have h4 := h3.tell ⟨n, 0, 3, 0, 0, b, 0, (promisedS (trW w n) p).Value, 0, 0⟩ (by simp) (fun _ => .inr ⟨rfl, rfl⟩) (by simp)
    obtain ⟨acc2, h5⟩ := h4.ownVote n b _ hn (.inr ⟨rfl, rfl⟩)
    exact ⟨acc2, _, h5⟩
theorem Hist.begin_ {ms W w acc told} (h : Hist ms W w acc told) (n b : Int) (v : List UInt8) (hn : 0 ≤ n ∧ n < 6) (hb : 0 < b) (ho : ownB b = n.toNat) (hlt : (vtW w n).Promised < b) (hW : W v) : Lives ms W (beginW w n b v) := by
  unfold beginW
  have l1 : n.toNat < w.Votes.length := by rw [h.vts]; omega
  have l2 : n.toNat < w.Tries.length := by rw [h.trs]; omega
  have hnew : ∀ u, ¬ told b u := by
    intro u hu
    have h1 := h.inv.own b u hu
    rw [ho] at h1
    have h2 : (vtW w n).Promised = ((pxOf w acc told).vt n.toNat).Promised := rfl
    omega
  have i1 := h.inv.prepare n.toNat b (Int.le_of_lt hlt)
  rw [← px_vote w acc told _ _ l1] at i1
  have hvt : ((pxOf { w with Votes := w.Votes.set n.toNat { vtW w n with Promised := b } } acc told).vt n.toNat).Promised = b := by
    rw [px_vote w acc told _ _ l1]
    simp [upd]
  have i2 := i1.try_ n.toNat ⟨1, b, w.Members, v, [], [], []⟩ fun _ => ⟨ho, hb, Int.le_of_eq hvt.symm, hW, h.mem, fun p hp => absurd hp (by simp), fun i hi => absurd hi (by simp), fun _ => hnew, fun h => absurd rfl h⟩
  have h3 : Hist ms W { w with Votes := w.Votes.set n.toNat { vtW w n with Promised := b }, Tries := w.Tries.set n.toNat ⟨1, b, w.Members, v, [], [], []⟩ } acc told := by
    refine ⟨h.mem, by simpa using h.vts, by simpa using h.trs, ?_⟩
    have := px_try { w with Votes := w.Votes.set n.toNat { vtW w n with Promised := b } } acc told n.toNat ⟨1, b, w.Members, v, [], [], []⟩ l2
    rw [this]
    exact i2
  have h4 := h3.tell ⟨n, 0, 1, 0, 0, b, 0, [], 0, 0⟩ (by simp) (fun h => absurd h (by simp)) (by simp)
  refine h4.promised n b _ hn ?_
  have e : ∀ i, (pxOf (tellS { w with Votes := w.Votes.set n.toNat { vtW w n with Promised := b }, Tries := w.Tries.set n.toNat ⟨1, b, w.Members, v, [], [], []⟩ } ⟨n, 0, 1, 0, 0, b, 0, [], 0, 0⟩) acc told).vt i = (pxOf { w with Votes := w.Votes.set n.toNat { vtW w n with Promised := b } } acc told).vt i := fun _ => rfl
  refine ⟨?_, fun c u hc _ => ?_, fun hp => ?_⟩
  · rw [e]; exact Int.le_of_eq hvt.symm
  · exact h.inv.top _ _ _ hc
  · exact h.inv.last n.toNat hp
theorem Hist.come {ms W w acc told} (h : Hist ms W w acc told) (m : TMail) (hto : 0 ≤ m.To ∧ m.To < 6) (hk : m.Kind = 1 ∨ m.Kind = 2 ∨ m.Kind = 3 ∨ m.Kind = 4 ∨ m.Kind = 5) (hP : m.Kind = 2 → PromOK (pxOf w acc told) m.From.toNat m.Ballot m.Prior m.Value) (hA : m.Kind = 3 → told m.Ballot m.Value) (hT : m.Kind = 4 → ∃ v, acc m.From.toNat m.Ballot v) : Lives ms W (comeW w m) := by
  unfold comeW
  have l1 : m.To.toNat < w.Votes.length := by rw [h.vts]; omega
  have hno : ∀ (w2 : TWorld) (a2 t2) (k : TMail), Hist ms W w2 a2 t2 → k.Kind = 5 → Hist ms W (addMail w2 k) a2 t2 := by
    intro w2 a2 t2 k h2 h5
    refine h2.mails _ fun x hx => ?_
    rcases List.mem_append.1 hx with hx | hx
    · exact .inl hx
    · rw [List.mem_singleton] at hx
      subst hx
      exact .inr ⟨fun h => absurd h (by omega), fun h => absurd h (by omega), fun h => absurd h (by omega)⟩
  split
  · rename_i h2
    exact h.promised _ _ _ hto (hP h2)
  split
  · rename_i h4
    exact ⟨acc, told, h.taken _ _ _ hto (hT h4)⟩
  split
  · exact ⟨acc, told, h⟩
  split
  · split
    · rename_i hc
      have i1 := h.inv.prepare m.To.toNat m.Ballot hc.2.2.2
      rw [← px_vote w acc told _ _ l1] at i1
      have hvt : ((pxOf { w with Votes := w.Votes.set m.To.toNat { vtW w m.To with Promised := m.Ballot } } acc told).vt m.To.toNat).Promised = m.Ballot := by
        rw [px_vote w acc told _ _ l1]
        simp [upd]
      have h3 : Hist ms W { w with Votes := w.Votes.set m.To.toNat { vtW w m.To with Promised := m.Ballot } } acc told := ⟨h.mem, by simpa using h.vts, h.trs, i1⟩
      refine ⟨acc, told, h3.mails _ fun x hx => ?_⟩
      rcases List.mem_append.1 hx with hx | hx
      · exact .inl hx
      · rw [List.mem_singleton] at hx
        subst hx
        refine .inr ⟨fun _ => ⟨Int.le_of_eq hvt.symm, fun c u hc _ => h.inv.top _ _ _ hc, fun hp => h.inv.last m.To.toNat hp⟩, fun h => absurd h (by simp), fun h => absurd h (by simp)⟩
    · exact ⟨acc, told, hno _ _ _ _ h rfl⟩
  split
  · rename_i h2 h4 h5 h1 hc
    have h3 : m.Kind = 3 := by omega
    have i1 := h.inv.accept m.To.toNat m.Ballot m.Value hc.2.2.2 (hA h3)
    have h6 : Hist ms W { w with Votes := w.Votes.set m.To.toNat ⟨m.Ballot, m.Ballot, m.Value⟩ } (fun i c u => acc i c u ∨ (i = m.To.toNat ∧ c = m.Ballot ∧ u = m.Value)) told := by
      refine ⟨h.mem, by simpa using h.vts, h.trs, ?_⟩
      rw [px_vote w _ told _ _ l1]
      exact i1
    refine ⟨_, told, h6.mails _ fun x hx => ?_⟩
    rcases List.mem_append.1 hx with hx | hx
    · exact .inl hx
    · rw [List.mem_singleton] at hx
      subst hx
      exact .inr ⟨fun h => absurd h (by simp), fun h => absurd h (by simp), fun _ => ⟨m.Value, .inr ⟨rfl, rfl, rfl⟩⟩⟩
  · exact ⟨acc, told, hno _ _ _ _ h rfl⟩
end Go.Proofs
end
section
namespace Go.Proofs
open Go.Tm
set_option linter.unusedSimpArgs false
theorem vcheck_eq (v : TVote) : m_vote_Check v = some (if VOk v then 0 else 8) := by
  unfold VOk
  simp only [m_vote_Check, bcheck_eq]
  by_cases h1 : v.Promised = 0 <;> by_cases h2 : v.Ballot = 0 <;> by_cases h3 : BOk v.Promised <;> by_cases h4 : BOk v.Ballot <;> by_cases h5 : v.Value = [] <;> by_cases h6 : v.Ballot ≤ v.Promised <;> by_cases h7 : v.Value.length ≤ 1024 <;> have h8 : ((v.Value.length : Int) ≤ 1024) = (v.Value.length ≤ 1024) := propext (by omega) <;> simp_all
theorem asked_eq (v : TVote) (b : Int) (t : List UInt8) : ∃ e, m_vote_asked v b t = some e ∧ (e = 0 ↔ AskedS v b t) := by
  simp only [m_vote_asked, bcheck_eq, vcheck_eq, Option.bind_some]
  unfold AskedS
  by_cases h1 : VOk v
  · by_cases h2 : BOk b
    · by_cases h3 : t.length ≤ 1024
      · by_cases h4 : v.Promised ≤ b
        · exact ⟨0, by simp [h1, h2]; rw [if_neg (by omega), if_neg (by omega)], by simp [h1, h2, h3, h4]⟩
        · exact ⟨70, by simp [h1, h2]; rw [if_neg (by omega), if_pos (by omega)], by simp [h4]⟩
      · exact ⟨3, by simp [h1, h2]; omega, by simp [h3]⟩
    · exact ⟨50, by simp [h1, h2], by simp [h2]⟩
  · exact ⟨8, by simp [h1], by simp [h1]⟩
theorem prepare_eq (v : TVote) (b : Int) : ∃ r, m_vote_Prepare v b = some r ∧ (r.2 = 0 ↔ AskedS v b []) ∧ (r.2 = 0 → r.1 = { v with Promised := b }) := by
  obtain ⟨e, h1, h2⟩ := asked_eq v b []
  rw [m_vote_Prepare, h1]
  by_cases h0 : e = 0
  · exact ⟨({ v with Promised := b }, 0), by simp [h0], ⟨fun _ => h2.1 h0, fun _ => rfl⟩, fun _ => rfl⟩
  · exact ⟨(⟨0, 0, []⟩, e), by simp [h0], h2, fun h => absurd h h0⟩
theorem accept_eq (v : TVote) (b : Int) (t : List UInt8) : ∃ r, m_vote_Accept v b t = some r ∧ (r.2 = 0 ↔ AskedS v b t) ∧ (r.2 = 0 → r.1 = ⟨b, b, t⟩) := by
  obtain ⟨e, h1, h2⟩ := asked_eq v b t
  rw [m_vote_Accept, h1]
  by_cases h0 : e = 0
  · exact ⟨(⟨b, b, t⟩, 0), by simp [h0], ⟨fun _ => h2.1 h0, fun _ => rfl⟩, fun _ => rfl⟩
  · exact ⟨(⟨0, 0, []⟩, e), by simp [h0], h2, fun h => absurd h h0⟩
theorem node_eq (n : Int) : m_decree_node n = some (decide (0 ≤ n ∧ n < 6)) := by
  rw [m_decree_node]
  congr 1
  rw [Bool.eq_iff_iff]
  simp
theorem bnode_eq (n : Int) : m_ballot_node n = some (decide (0 ≤ n ∧ n < 6)) := by
  rw [m_ballot_node]
  congr 1
  rw [Bool.eq_iff_iff]
  simp
theorem wr64 (n : Int) (h : -9223372036854775808 ≤ n ∧ n ≤ 9223372036854775807) : wr .i64 n = n := wr_eq .i64 n (by simpa [IntKind.min, IntKind.max, IntKind.signed, IntKind.bits] using h.1) (by simpa [IntKind.min, IntKind.max, IntKind.signed, IntKind.bits] using h.2)
theorem next_eq (a n : Int) : ∃ r, m_ballot_Next a n = some r ∧ (r.2 = 0 → 0 ≤ n ∧ n < 6 ∧ 0 ≤ a ∧ a < r.1 ∧ 8 ≤ r.1 ∧ BOk r.1 ∧ ownB r.1 = n.toNat) := by
  rw [m_ballot_Next, bnode_eq]
  simp only [Option.bind_some]
  by_cases h : 0 ≤ n ∧ n < 6 ∧ 0 ≤ a ∧ a ≤ 8388613
  · obtain ⟨h1, h2, h3, h4⟩ := h
    rw [if_neg (by simp; omega)]
    have e1 : a.tdiv 8 = a / 8 := Int.tdiv_eq_ediv_of_nonneg h3
    have e2 : wr .i64 (a / 8) = a / 8 := wr64 _ (by omega)
    have e3 : wr .i64 (a / 8 * 8) = a / 8 * 8 := wr64 _ (by omega)
    have e4 : wr .i64 (a / 8 * 8 + n) = a / 8 * 8 + n := wr64 _ (by omega)
    have e5 : wr .i64 (a / 8 * 8 + n + 8) = a / 8 * 8 + n + 8 := wr64 _ (by omega)
    simp only [e1, e2, e3, e4, e5]
    have key : ∀ b : Int, a < b → 8 ≤ b → b ≤ 8388613 → b % 8 = n → 0 ≤ n ∧ n < 6 ∧ 0 ≤ a ∧ a < b ∧ 8 ≤ b ∧ BOk b ∧ ownB b = n.toNat := by
      intro b k1 k2 k3 k4
      refine ⟨h1, h2, h3, k1, k2, ?_, ?_⟩
      · unfold BOk
        rw [Int.tdiv_eq_ediv_of_nonneg (by omega), Int.tmod_eq_emod_of_nonneg (by omega), wr64 _ (by omega)]
        omega
      · unfold ownB
        rw [Int.tmod_eq_emod_of_nonneg (by omega), k4]
    split
    · simp only [Option.bind_some]
      split
      · exact ⟨_, rfl, fun h => by simp at h⟩
      · exact ⟨_, rfl, fun _ => key _ (by omega) (by omega) (by dsimp only; omega) (by dsimp only; omega)⟩
    · simp only [Option.bind_some]
      split
      · exact ⟨_, rfl, fun h => by simp at h⟩
      · exact ⟨_, rfl, fun _ => key _ (by dsimp only; omega) (by dsimp only; omega) (by dsimp only; omega) (by dsimp only; omega)⟩
  · rw [if_pos (by simp; omega)]
    exact ⟨_, rfl, fun h => by simp at h⟩
def MOk (m : TMail) : Prop := (0 ≤ m.From ∧ m.From < 6) ∧ (0 ≤ m.To ∧ m.To < 6) ∧ 1 ≤ m.Kind ∧ m.Kind ≤ 5 ∧ BOk m.Ballot ∧ 0 ≤ m.Prior ∧ m.Value.length ≤ 1024 ∧ m.Group = 0 ∧ m.Slot = 0 ∧ m.Id = 0 ∧ m.Time = 0
instance (m : TMail) : Decidable (MOk m) := by unfold MOk; infer_instance
theorem mail_eq (m : TMail) : m_decree_mail m = some (decide (MOk m)) := by
  unfold MOk
  simp only [m_decree_mail, node_eq, bcheck_eq, Option.bind_some]
  by_cases h1 : 0 ≤ m.From ∧ m.From < 6
  · by_cases h2 : 0 ≤ m.To ∧ m.To < 6
    · by_cases h3 : m.Kind ≥ 1
      · by_cases h4 : m.Kind ≤ 5
        · by_cases h5 : BOk m.Ballot
          · simp only [h1, h2, h3, h4, h5, decide_true, Bool.true_and, true_and, and_true, if_true, and_self, Option.bind_some]
            congr 1
            rw [Bool.eq_iff_iff]
            simp
            omega
          · simp [h1, h2, h3, h4, h5]
        · simp [h1, h2, h4]
      · simp [h1, h2, show ¬ 1 ≤ m.Kind from h3]
    · simp [h1, h2]
  · simp [h1]
structure WOk (w : TWorld) : Prop where
  mem : QOk w.Members
  vts : w.Votes.length = 6
  trs : w.Tries.length = 6
  mail : w.Mail.length ≤ 1000
  ch : w.Chosen.length ≤ 1000
  vote : ∀ i : Nat, i < 6 → VOk (w.Votes.getD i default)
  try_ : ∀ i : Nat, i < 6 → Valid (w.Tries.getD i default) ∧ ((w.Tries.getD i default).Phase ≠ 0 → ownB (w.Tries.getD i default).Ballot = i ∧ (w.Tries.getD i default).Members = w.Members)
  mails : ∀ m ∈ w.Mail, MOk m
  chs : ∀ c ∈ w.Chosen, (0 ≤ c.Node ∧ c.Node < 6) ∧ c.Value.length ≤ 1024
theorem cl3_eq (l : List TChoice) : ∀ b, m_decree_Check_loop3 l b = some (b && decide (∀ c ∈ l, (0 ≤ c.Node ∧ c.Node < 6) ∧ c.Value.length ≤ 1024)) := by
  induction l with
  | nil => intro b; rw [m_decree_Check_loop3_n]; simp
  | cons y l ih =>
    intro b
    rw [m_decree_Check_loop3_c]
    simp only [node_eq]
    cases b
    · simp [ih]
    · simp only [if_true, Option.bind_some, ih]
      congr 1
      rw [Bool.eq_iff_iff]
      simp
      have : ((y.Value.length : Int) ≤ 1024) ↔ y.Value.length ≤ 1024 := by omega
      simp [this]
theorem cl2_eq (l : List TMail) : ∀ b, m_decree_Check_loop2 l b = some (b && decide (∀ m ∈ l, MOk m)) := by
  induction l with
  | nil => intro b; rw [m_decree_Check_loop2]; simp
  | cons y l ih =>
    intro b
    rw [m_decree_Check_loop2]
    simp only [mail_eq]
    cases b
    · simp [ih]
    · simp only [if_true, Option.bind_some, ih]
      congr 1
      rw [Bool.eq_iff_iff]
      simp
end Go.Proofs
end
section
namespace Go.Proofs
open Go.Tm
set_option linter.unusedSimpArgs false
theorem of_eq (b : Int) : ∃ r, m_ballot_Of b = some r ∧ (BOk b → r.2.1 = b.tmod 8) := by
  rw [m_ballot_Of]
  simp only [bnode_eq]
  unfold BOk
  by_cases h : wr .i64 (b.tdiv 8) < 1 ∨ wr .i64 (b.tdiv 8) > 1048576
  · exact ⟨(0, 0, 50), by simp [h], fun k => absurd h k.1⟩
  · by_cases h1 : b.tmod 8 ≥ 0 <;> by_cases h2 : b.tmod 8 < 6 <;> simp [h, h1, h2]
def TOk (w : TWorld) (i : Nat) : Prop := VOk (w.Votes.getD i default) ∧ Valid (w.Tries.getD i default) ∧ ((w.Tries.getD i default).Phase ≠ 0 → ownB (w.Tries.getD i default).Ballot = i ∧ (w.Tries.getD i default).Members = w.Members)
theorem cl1_eq (w : TWorld) (hv : w.Votes.length = 6) (ht : w.Tries.length = 6) (hl : ∀ t ∈ w.Tries, t.Promises.length < 1000000) : ∀ (l : List TAttempt) (n : Nat) (b : Bool), w.Tries.drop n = l → ∃ r, m_decree_Check_loop1 w l n b = some r ∧ (r = true ↔ b = true ∧ ∀ i, n ≤ i → i < 6 → TOk w i) := by
  intro l
  induction l with
  | nil =>
    intro n b hd
    have hn : 6 ≤ n := by rw [← ht]; exact List.drop_eq_nil_iff.1 hd
    exact ⟨b, by rw [m_decree_Check_loop1], by constructor; exact fun h => ⟨h, fun i h1 h2 => by omega⟩; exact fun h => h.1⟩
  | cons y l ih =>
    intro n b hd
    have hn : n < w.Tries.length := by
      apply Nat.lt_of_not_le
      intro h
      rw [List.drop_eq_nil_iff.2 h] at hd
      cases hd
    have hy : w.Tries.getD n default = y := by
      have h1 := List.drop_eq_getElem_cons hn
      rw [hd] at h1
      rw [List.getD_eq_getElem?_getD, List.getElem?_eq_getElem hn]
      exact (List.cons.inj h1).1.symm
    have hd2 : w.Tries.drop (n + 1) = l := by
      rw [← List.drop_drop, hd]
      rfl
    have hym : y ∈ w.Tries := by
      have h1 : y ∈ w.Tries.drop n := by rw [hd]; exact List.mem_cons_self ..
      exact List.mem_of_mem_drop h1
    obtain ⟨e, he, hva⟩ := check_eq y (hl y hym)
    obtain ⟨r, hr, hrb⟩ := of_eq y.Ballot
    rw [m_decree_Check_loop1, if_pos (by omega)]
    simp only [vcheck_eq, he, hr, Option.bind_some]
    suffices hs : ∃ b3 : Bool, (Option.bind (if b = true then some (if VOk (w.Votes.getD n default) then (0 : Int) else 8) else some default) fun v2 =>
    Option.bind (if (b = true) ∧ (v2 = 0) then some e else some default) fun v3 =>
    if ¬ (y.Phase = 0) then
    Option.bind (if (((b = true) ∧ (v2 = 0)) ∧ (v3 = 0)) ∧ (r.2.1 = (n : Int)) then m_slices_Equal_int_int (y.Members) w.Members else some default) fun v5 =>
    some ((((b && (v2 == 0)) && (v3 == 0)) && (r.2.1 == (n : Int))) && v5)
    else
    some ((b && (v2 == 0)) && (v3 == 0))) = some b3 ∧ (b3 = true ↔ b = true ∧ TOk w n) by
      obtain ⟨b3, h1, h2⟩ := hs
      rw [h1]
      obtain ⟨q, h3, h4⟩ := ih (n + 1) b3 hd2
      refine ⟨q, h3, h4.trans ?_⟩
      rw [h2]
      constructor
      · rintro ⟨⟨h5, h6⟩, h7⟩
        refine ⟨h5, fun i hi h6i => ?_⟩
        by_cases hin : i = n
        · rw [hin]; exact h6
        · exact h7 i (by omega) h6i
      · rintro ⟨h5, h6⟩
        exact ⟨⟨h5, h6 n (Nat.le_refl _) (by omega)⟩, fun i hi h6i => h6 i (by omega) h6i⟩
    unfold TOk
    rw [hy]
    generalize w.Votes.getD n default = vt
    cases b with
    | false =>
      simp only [Bool.false_eq_true, if_false, false_and, Option.bind_some, Bool.false_and]
      by_cases hp : y.Phase = 0
      · exact ⟨false, by simp [hp], by simp⟩
      · exact ⟨false, by simp [hp], by simp⟩
    | true =>
      by_cases hV : VOk vt
      · by_cases h0 : e = 0
        · have hvy := hva.1 h0
          by_cases hp : y.Phase = 0
          · exact ⟨true, by simp [hV, h0, hp], by simp [hV, hvy, hp]⟩
          · have hk := hvy.kept hp
            have hrt := hrb hk.ballot
            have ho : r.2.1 = (n : Int) ↔ ownB y.Ballot = n := by
              rw [hrt]
              unfold ownB
              have := hk.ballot.2.1
              omega
            by_cases hb : r.2.1 = (n : Int)
            · rw [equal_eq]
              refine ⟨decide (y.Members = w.Members), by simp [hV, h0, hp, hb], ?_⟩
              simp [hV, hvy, hp, ho.1 hb]
            · have hb2 : ¬ ownB y.Ballot = n := fun h => hb (ho.2 h)
              exact ⟨false, by simp [hV, h0, hp, hb], by simp [hp, hb2]⟩
        · have hvy : ¬ Valid y := fun h => h0 (hva.2 h)
          by_cases hp : y.Phase = 0
          · exact ⟨false, by simp [hV, h0, hp], by simp [hvy]⟩
          · exact ⟨false, by simp [hV, h0, hp], by simp [hvy]⟩
      · by_cases hp : y.Phase = 0
        · exact ⟨false, by simp [hV, hp], by simp [hV]⟩
        · exact ⟨false, by simp [hV, hp], by simp [hV]⟩
theorem dcheck_eq (w : TWorld) (hl : ∀ t ∈ w.Tries, t.Promises.length < 1000000) : ∃ e, m_decree_Check w = some e ∧ (e = 0 ↔ WOk w) := by
  rw [m_decree_Check, qcheck_eq]
  simp only [Option.bind_some]
  by_cases hq : QOk w.Members
  · have h1 : (if w.Members.length > 6 then (4 : Int) else if risesP (-1) w.Members = true ∧ w.Members ≠ [] then 0 else 60) = 0 := by
      rw [if_neg (by have := hq.1; omega), if_pos hq.2]
    rw [h1]
    by_cases h : w.Votes.length = 6 ∧ w.Tries.length = 6 ∧ w.Mail.length ≤ 1000 ∧ w.Chosen.length ≤ 1000
    · obtain ⟨h2, h3, h4, h5⟩ := h
      rw [if_neg (by omega)]
      obtain ⟨r, hr, hr2⟩ := cl1_eq w h2 h3 hl w.Tries 0 (((((0 == (0:Int)) && ((w.Votes.length : Int) == 6)) && ((w.Tries.length : Int) == 6)) && (decide ((w.Mail.length : Int) ≤ 1000))) && (decide ((w.Chosen.length : Int) ≤ 1000))) rfl
      rw [hr]
      simp only [Option.bind_some, cl2_eq, cl3_eq]
      have hb : (((((0 == (0:Int)) && ((w.Votes.length : Int) == 6)) && ((w.Tries.length : Int) == 6)) && (decide ((w.Mail.length : Int) ≤ 1000))) && (decide ((w.Chosen.length : Int) ≤ 1000))) = true := by
        simp; omega
      rw [hb] at hr2
      have hw : WOk w ↔ (r && decide (∀ m ∈ w.Mail, MOk m) && decide (∀ c ∈ w.Chosen, (0 ≤ c.Node ∧ c.Node < 6) ∧ c.Value.length ≤ 1024)) = true := by
        rw [Bool.and_eq_true, Bool.and_eq_true, hr2, decide_eq_true_iff, decide_eq_true_iff]
        constructor
        · exact fun k => ⟨⟨⟨rfl, fun i _ hi => ⟨k.vote i hi, k.try_ i hi⟩⟩, k.mails⟩, k.chs⟩
        · exact fun k => ⟨hq, h2, h3, h4, h5, fun i hi => (k.1.1.2 i (Nat.zero_le _) hi).1, fun i hi => (k.1.1.2 i (Nat.zero_le _) hi).2, k.1.2, k.2⟩
      by_cases hb3 : (r && decide (∀ m ∈ w.Mail, MOk m) && decide (∀ c ∈ w.Chosen, (0 ≤ c.Node ∧ c.Node < 6) ∧ c.Value.length ≤ 1024)) = true
      · exact ⟨0, by rw [if_neg (by rw [hb3]; simp)], ⟨fun _ => hw.2 hb3, fun _ => rfl⟩⟩
      · exact ⟨8, by rw [if_pos hb3], ⟨fun h => by simp at h, fun h => absurd (hw.1 h) hb3⟩⟩
    · rw [if_pos (by omega)]
      exact ⟨8, rfl, fun h => by simp at h, fun k => absurd ⟨k.vts, k.trs, k.mail, k.ch⟩ h⟩
  · rw [if_pos]
    · exact ⟨8, rfl, fun h => by simp at h, fun k => absurd k.mem hq⟩
    · intro h
      have h1 := h.1.1.1.1
      split at h1
      · simp at h1
      · rename_i h2
        split at h1
        · rename_i h3
          exact hq ⟨by omega, h3⟩
        · simp at h1
end Go.Proofs
end
section
namespace Go.Proofs
open Go.Tm
set_option linter.unusedSimpArgs false
theorem Valid.len {a : TAttempt} (h : Valid a) : a.Members.length ≤ 6 ∧ a.Promises.length ≤ 6 ∧ a.Accepted.length ≤ 6 := by
  by_cases h0 : a.Phase = 0
  · unfold Valid at h
    rw [if_pos h0] at h
    subst h
    simp
  · exact (h.kept h0).lens
theorem WOk.proms {w : TWorld} (h : WOk w) : ∀ t ∈ w.Tries, t.Promises.length < 1000000 := by
  intro t ht
  obtain ⟨i, hi, rfl⟩ := List.getElem_of_mem ht
  have h6 : i < 6 := by rw [← h.trs]; exact hi
  have hv := (h.try_ i h6).1.len.2.1
  rw [List.getD_eq_getElem?_getD, List.getElem?_eq_getElem hi] at hv
  simp only [Option.getD_some] at hv
  omega
theorem begin_eq' (m : List Int) (b : Int) (w : List UInt8) : ∃ r, m_attempt_Begin m b w = some r ∧ (r.2 = 0 → QOk m ∧ BOk b ∧ w.length ≤ 1024 ∧ r.1 = ⟨1, b, m, w, [], [], []⟩) := by
  rw [m_attempt_Begin]
  by_cases hq : QOk m
  · rw [qcheck_eq, if_neg (by have := hq.1; omega), if_pos hq.2]
    simp only [Option.bind_some, not_true_eq_false, if_false, bcheck_eq]
    by_cases hb : BOk b
    · rw [if_pos hb]
      simp only [not_true_eq_false, if_false]
      by_cases hw : w.length ≤ 1024
      · rw [if_neg (by omega), m_slices_Clone_int_int, if_pos (by have := hq.1; omega)]
        exact ⟨_, rfl, fun _ => ⟨hq, hb, hw, rfl⟩⟩
      · rw [if_pos (by omega)]
        exact ⟨_, rfl, by simp⟩
    · rw [if_neg hb, if_pos (by simp)]
      exact ⟨_, rfl, by simp⟩
  · obtain ⟨e, he, hne⟩ := qcheck_ne hq
    rw [he]
    simp only [Option.bind_some]
    rw [if_pos hne]
    exact ⟨_, rfl, fun h => absurd h hne⟩
theorem set_getD {α : Type} (l : List α) (n : Nat) (d : α) : l.set n (l.getD n d) = l := by
  apply List.ext_getElem
  · simp
  · intro i h1 h2
    by_cases e : n = i
    · subst e
      simp [List.getD, h2]
    · simp [List.getElem_set_ne e]
theorem twin_loop (l : List TAttempt) (hl : l.length = 6) (hv : ∀ i, i < 6 → Valid (l.getD i default)) : ∀ (k n fu : Nat), n + k = 6 → k < fu → m_decree_Twin_loop1 l fu l (n : Int) = some l := by
  intro k
  induction k with
  | zero =>
    intro n fu hn hf
    obtain ⟨f, rfl⟩ : ∃ f, fu = f + 1 := ⟨fu - 1, by omega⟩
    rw [m_decree_Twin_loop1, if_neg (by omega), if_pos (by omega)]
  | succ k ih =>
    intro n fu hn hf
    obtain ⟨f, rfl⟩ : ∃ f, fu = f + 1 := ⟨fu - 1, by omega⟩
    have h1 := (hv n (by omega)).len
    rw [m_decree_Twin_loop1, if_pos (by omega), if_pos (by omega), Int.toNat_natCast, twin_eq _ (by omega) (by omega) (by omega)]
    simp only [Option.bind_some]
    rw [if_pos (by omega), if_pos (by omega), set_getD, wr64 _ (by omega), show (n : Int) + 1 = ((n + 1 : Nat) : Int) from rfl]
    exact ih (n + 1) f (by omega) (by omega)
theorem dtwin_eq {w : TWorld} (h : WOk w) : m_decree_Twin w = some w := by
  have h6 := h.mem.1
  have h1 := h.vts
  have h2 := h.trs
  have h3 := h.mail
  have h4 := h.ch
  rw [m_decree_Twin, m_slices_Clone_int_int, m_slices_Clone_Vote_Vote, m_slices_Clone_Mail_Mail, m_slices_Clone_Choice_Choice, m_slices_Clone_Attempt_Attempt]
  rw [if_pos (by omega), if_pos (by omega), if_pos (by omega), if_pos (by omega), if_pos (by omega)]
  simp only [Option.bind_some]
  have := twin_loop w.Tries h2 (fun i hi => (h.try_ i hi).1) 6 0 (w.Tries.length + 1) rfl (by omega)
  rw [show ((0 : Nat) : Int) = 0 from rfl] at this
  rw [this]
  rfl
theorem tell_loop (w : TWorld) (m : TMail) (h6 : w.Members.length ≤ 6) : ∀ (k n fu : Nat) (l : List TMail) (j : Int), n + k = w.Members.length → k < fu → l.length + k < 1000000 → m_decree_world_tell_loop1 ⟨w⟩ m fu l j (n : Int) = some ⟨{ w with Mail := l ++ ((w.Members.drop n).filter fun to => decide (to ≠ m.From)).map fun to => { m with To := to } }⟩ := by
  intro k
  induction k with
  | zero =>
    intro n fu l j hn hf _
    obtain ⟨f, rfl⟩ : ∃ f, fu = f + 1 := ⟨fu - 1, by omega⟩
    rw [m_decree_world_tell_loop1, if_neg (by dsimp only; omega), List.drop_eq_nil_of_le (by omega)]
    simp
  | succ k ih =>
    intro n fu l j hn hf hl
    obtain ⟨f, rfl⟩ : ∃ f, fu = f + 1 := ⟨fu - 1, by omega⟩
    have hlt : n < w.Members.length := by omega
    have hd := List.drop_eq_getElem_cons hlt
    have hg : w.Members.getD n default = w.Members[n] := by
      rw [List.getD_eq_getElem?_getD, List.getElem?_eq_getElem hlt]
      rfl
    rw [m_decree_world_tell_loop1, if_pos (by dsimp only; omega), if_pos (by dsimp only; omega)]
    simp only [Int.toNat_natCast]
    rw [hg, hd, wr64 _ (by omega), show (n : Int) + 1 = ((n + 1 : Nat) : Int) from rfl]
    by_cases he : w.Members[n] = m.From
    · rw [if_neg (by simpa using he)]
      simp only [Option.bind_some]
      rw [ih (n + 1) f l _ (by omega) (by omega) (by omega)]
      simp [he]
    · rw [if_pos he, if_pos (by simp; omega)]
      simp only [Option.bind_some]
      rw [ih (n + 1) f _ _ (by omega) (by omega) (by simp; omega), List.filter_cons, if_pos (by simpa using he), List.map_cons, List.append_assoc]
      rfl
theorem tell_eq (w : TWorld) (m : TMail) (h6 : w.Members.length ≤ 6) (hl : w.Mail.length ≤ 2000) : m_decree_world_tell ⟨w⟩ m = some ⟨tellS w m⟩ := by
  rw [m_decree_world_tell]
  have := tell_loop w m h6 w.Members.length 0 (w.Members.length + 1) w.Mail m.To (by omega) (by omega) (by omega)
  rw [show ((0 : Nat) : Int) = 0 from rfl] at this
  exact this
theorem taken_eq (w : TWorld) (n b q : Int) (hn : 0 ≤ n ∧ n < 6) (ht : w.Tries.length = 6) (hc : w.Chosen.length ≤ 2000) (hl : (trW w n).Promises.length < 1000000) : m_decree_world_taken ⟨w⟩ n b q = some ⟨takenW w n b q⟩ := by
  rw [m_decree_world_taken, if_pos (by dsimp only; omega)]
  obtain ⟨r, hr, h1, h2⟩ := accepted_eq (trW w n) b q hl
  show Option.bind (m_attempt_Accepted (trW w n) b q) _ = _
  rw [hr]
  simp only [Option.bind_some]
  unfold takenW
  by_cases h0 : r.2 = 0
  · rw [if_neg (by simpa using h0), if_pos (h1.1 h0), h2 h0, if_pos (by intro _; omega)]
    by_cases h3 : (acceptedS (trW w n) q).Phase = 3 ∧ ¬ (trW w n).Phase = 3
    · rw [if_pos h3, if_pos (by simp; omega), if_pos (show _ ∧ _ ≠ _ from h3)]
      simp only [Option.bind_some]
      rw [if_pos (by omega)]
    · rw [if_neg h3, if_neg (show ¬ (_ ∧ _ ≠ _) from h3)]
      simp only [Option.bind_some]
      rw [if_pos (by omega)]
  · rw [if_pos h0, if_neg (fun h => h0 (h1.2 h))]
theorem ownVote_eq (w : TWorld) (n b : Int) (v : List UInt8) (hn : 0 ≤ n ∧ n < 6) (hvt : w.Votes.length = 6) (ht : w.Tries.length = 6) (hc : w.Chosen.length ≤ 2000) (hl : (trW w n).Promises.length < 1000000) :
    (Option.bind (m_quorum_Has w.Members n) fun v3 =>
  if ¬ (v3 = true) then
  some (⟨w⟩ : Tdecree_world)
  else
  if (0 ≤ n ∧ n < (w.Votes.length : Int)) then
  Option.bind (m_vote_Accept (w.Votes.getD n.toNat default) b v) fun v4 =>
  if v4.2 = 0 then
  if (0 ≤ n ∧ n < (w.Votes.length : Int)) then
  Option.bind (m_decree_world_taken (⟨(⟨w.Members, (w.Votes.set n.toNat v4.1), w.Tries, w.Mail, w.Chosen⟩ : TWorld)⟩ : Tdecree_world) n b n) fun v5 =>
  some v5
  else none
  else
  some (⟨w⟩ : Tdecree_world)
  else none) = some ⟨ownVote w n b v⟩ := by
  rw [has_eq]
  simp only [Option.bind_some]
  unfold ownVote
  by_cases hm : n ∈ w.Members
  · rw [if_neg (by simpa using hm), if_pos (by omega)]
    obtain ⟨r, hr, h1, h2⟩ := accept_eq (vtW w n) b v
    rw [hr]
    simp only [Option.bind_some]
    by_cases h0 : r.2 = 0
    · rw [if_pos h0, if_pos (by omega), if_pos ⟨hm, h1.1 h0⟩, h2 h0, taken_eq { w with Votes := w.Votes.set n.toNat ⟨b, b, v⟩ } n b n hn ht hc hl]
      rfl
    · rw [if_neg h0, if_neg (fun h => h0 (h1.2 h.2))]
  · rw [if_pos (by simpa using hm), if_neg (fun h => hm h.1)]
end Go.Proofs
end
section
namespace Go.Proofs
open Go.Tm
set_option linter.unusedSimpArgs false
structure Shape (w : TWorld) (k : Nat) : Prop where
  mem : w.Members.length ≤ 6
  vts : w.Votes.length = 6
  trs : w.Tries.length = 6
  mail : w.Mail.length ≤ k
  ch : w.Chosen.length ≤ 1000
theorem getD_set_same {α : Type} (l : List α) (n : Nat) (a d : α) (h : n < l.length) : (l.set n a).getD n d = a := by
  simp [List.getD, h]
theorem tellS_len (w : TWorld) (m : TMail) : (tellS w m).Mail.length ≤ w.Mail.length + w.Members.length := by
  unfold tellS
  simp only [List.length_append, List.length_map]
  have := List.length_filter_le (fun to => decide (to ≠ m.From)) w.Members
  omega
theorem promW_eq (w : TWorld) (n b : Int) (p : TPromise) (hn : 0 ≤ n ∧ n < 6) (h : Shape w 1500) (hl : (trW w n).Promises.length < 1000000) : m_decree_world_promised ⟨w⟩ n b p = some ⟨promisedW w n b p⟩ := by
  have ht := h.trs
  rw [m_decree_world_promised, if_pos (by dsimp only; omega)]
  obtain ⟨r, hr, h1, h2⟩ := promised_eq (trW w n) b p hl
  show Option.bind (m_attempt_Promised (trW w n) b p) _ = _
  rw [hr]
  simp only [Option.bind_some]
  unfold promisedW
  by_cases h0 : r.2 = 0
  · have hc := h1.1 h0
    rw [if_neg (by simpa using h0), if_pos (by omega), if_pos hc, h2 h0]
    by_cases h3 : (promisedS (trW w n) p).Phase = 1
    · rw [if_pos h3, if_pos h3]
    · rw [if_neg h3, if_neg h3]
      have e := tell_eq { w with Tries := w.Tries.set n.toNat (promisedS (trW w n) p) } ⟨n, 0, 3, 0, 0, b, 0, (promisedS (trW w n) p).Value, 0, 0⟩ h.mem (by have := h.mail; show w.Mail.length ≤ 2000; omega)
      rw [e]
      simp only [Option.bind_some]
      have hv := promised_kept (a := trW w n) (p := p) ⟨hc.1, hc.2.1, rfl, hc.2.2.2.1, hc.2.2.1 ▸ hc.2.2.2.2⟩
      have e2 := ownVote_eq (tellS { w with Tries := w.Tries.set n.toNat (promisedS (trW w n) p) } ⟨n, 0, 3, 0, 0, b, 0, (promisedS (trW w n) p).Value, 0, 0⟩) n b (promisedS (trW w n) p).Value hn h.vts (by show (w.Tries.set n.toNat _).length = 6; simpa using h.trs) (by have := h.ch; show w.Chosen.length ≤ 2000; omega) (by
        show ((w.Tries.set n.toNat (promisedS (trW w n) p)).getD n.toNat default).Promises.length < 1000000
        rw [getD_set_same _ _ _ _ (by omega)]
        have := hv.len.2.1
        omega)
      exact e2
  · rw [if_pos h0, if_neg (fun k => h0 (h1.2 k))]
theorem beginW_eq (w : TWorld) (n : Int) (t : List UInt8) (hn : 0 ≤ n ∧ n < 6) (h : Shape w 1000) : ∃ r, m_decree_world_begin ⟨w⟩ n t = some r ∧ (r.1 = 0 → ∃ b, QOk w.Members ∧ AskedS (vtW w n) b [] ∧ t.length ≤ 1024 ∧ 0 ≤ (vtW w n).Promised ∧ (vtW w n).Promised < b ∧ 8 ≤ b ∧ ownB b = n.toNat ∧ r.2 = ⟨beginW w n b t⟩) := by
  have hv := h.vts
  have ht := h.trs
  rw [m_decree_world_begin, if_pos (by dsimp only; omega)]
  obtain ⟨r1, hr1, k1⟩ := next_eq (vtW w n).Promised n
  show ∃ r, Option.bind (m_ballot_Next (vtW w n).Promised n) _ = some r ∧ _
  rw [hr1]
  simp only [Option.bind_some]
  by_cases h0 : r1.2 = 0
  · obtain ⟨_, _, k2, k3, k4, k5, k6⟩ := k1 h0
    rw [if_neg (by simpa using h0)]
    obtain ⟨r2, hr2, a1, a2⟩ := prepare_eq (vtW w n) r1.1
    show ∃ r, Option.bind (m_vote_Prepare (vtW w n) r1.1) _ = some r ∧ _
    rw [hr2]
    simp only [Option.bind_some]
    rw [if_pos (by omega)]
    by_cases h2 : r2.2 = 0
    · rw [if_neg (by simpa using h2), a2 h2]
      obtain ⟨r3, hr3, b1⟩ := begin_eq' w.Members r1.1 t
      rw [hr3]
      simp only [Option.bind_some]
      rw [if_pos (by omega)]
      by_cases h3 : r3.2 = 0
      · obtain ⟨c1, c2, c3, c4⟩ := b1 h3
        rw [if_neg (by simpa using h3), c4]
        have e := tell_eq { w with Votes := w.Votes.set n.toNat { vtW w n with Promised := r1.1 }, Tries := w.Tries.set n.toNat ⟨1, r1.1, w.Members, t, [], [], []⟩ } ⟨n, 0, 1, 0, 0, r1.1, 0, [], 0, 0⟩ h.mem (by have := h.mail; show w.Mail.length ≤ 2000; omega)
        rw [e]
        simp only [Option.bind_some]
        have hlen := tellS_len { w with Votes := w.Votes.set n.toNat { vtW w n with Promised := r1.1 }, Tries := w.Tries.set n.toNat ⟨1, r1.1, w.Members, t, [], [], []⟩ } ⟨n, 0, 1, 0, 0, r1.1, 0, [], 0, 0⟩
        have e2 := promW_eq (tellS { w with Votes := w.Votes.set n.toNat { vtW w n with Promised := r1.1 }, Tries := w.Tries.set n.toNat ⟨1, r1.1, w.Members, t, [], [], []⟩ } ⟨n, 0, 1, 0, 0, r1.1, 0, [], 0, 0⟩) n r1.1 ⟨n, (vtW w n).Ballot, (vtW w n).Value⟩ hn ⟨h.mem, by show (w.Votes.set _ _).length = 6; simpa using hv, by show (w.Tries.set _ _).length = 6; simpa using ht, Nat.le_trans hlen (by have := h.mem; have := h.mail; show w.Mail.length + w.Members.length ≤ 1500; omega), h.ch⟩ (by
          show ((w.Tries.set n.toNat ⟨1, r1.1, w.Members, t, [], [], []⟩).getD n.toNat default).Promises.length < 1000000
          rw [getD_set_same _ _ _ _ (by omega)]
          simp)
        refine ⟨_, by rw [e2]; rfl, fun _ => ⟨r1.1, c1, a1.1 h2, c3, k2, k3, k4, k6, rfl⟩⟩
      · rw [if_pos h3]
        exact ⟨_, rfl, fun h => absurd h h3⟩
    · rw [if_pos h2]
      refine ⟨(r2.2, ⟨{ w with Votes := w.Votes.set n.toNat r2.1 }⟩), ?_, fun h => absurd h h2⟩
      rfl
  · rw [if_pos h0]
    exact ⟨_, rfl, fun h => absurd h h0⟩
theorem comeW_eq (w : TWorld) (m : TMail) (hm : MOk m) (h : Shape w 1000) (hl : ∀ t ∈ w.Tries, t.Promises.length < 1000000) : m_decree_world_come ⟨w⟩ m = some ⟨comeW w m⟩ := by
  obtain ⟨_, hto, hk1, hk2, _⟩ := hm
  have hv := h.vts
  have ht := h.trs
  have hc := h.ch
  have hml := h.mail
  have hlt : (trW w m.To).Promises.length < 1000000 := by
    have h1 : m.To.toNat < w.Tries.length := by omega
    have h2 : w.Tries.getD m.To.toNat default = w.Tries[m.To.toNat] := by
      rw [List.getD_eq_getElem?_getD, List.getElem?_eq_getElem h1]
      rfl
    show (w.Tries.getD m.To.toNat default).Promises.length < 1000000
    rw [h2]
    exact hl _ (List.getElem_mem h1)
  rw [m_decree_world_come, if_pos (by dsimp only; omega)]
  unfold comeW
  by_cases c2 : m.Kind = 2
  · rw [if_pos c2, if_pos c2, promW_eq w m.To m.Ballot _ hto ⟨h.mem, hv, ht, by omega, hc⟩ hlt]
    rfl
  rw [if_neg c2, if_neg c2]
  by_cases c4 : m.Kind = 4
  · rw [if_pos c4, if_pos c4, taken_eq w m.To m.Ballot m.From hto ht (by omega) hlt]
    rfl
  rw [if_neg c4, if_neg c4]
  by_cases c5 : m.Kind = 5
  · rw [if_pos c5, if_pos c5]
    rfl
  rw [if_neg c5, if_neg c5]
  by_cases c1 : m.Kind = 1
  · rw [if_pos c1, if_pos c1]
    obtain ⟨r, hr, h1, h2⟩ := prepare_eq (vtW w m.To) m.Ballot
    show Option.bind (Option.bind (m_vote_Prepare (vtW w m.To) m.Ballot) _) _ = _
    rw [hr]
    simp only [Option.bind_some]
    by_cases h0 : r.2 = 0
    · rw [if_pos (h1.1 h0), h2 h0, if_neg (by simpa using h0), if_pos (by omega)]
      simp only [Option.bind_some]
      rw [if_pos (by simp; omega)]
      rfl
    · rw [if_neg (fun k => h0 (h1.2 k)), if_pos h0, if_pos (by omega)]
      simp only [Option.bind_some]
      rw [if_pos (by simp; omega)]
      rfl
  · have c3 : m.Kind = 3 := by omega
    rw [if_neg c1, if_neg c1, if_pos c3]
    obtain ⟨r, hr, h1, h2⟩ := accept_eq (vtW w m.To) m.Ballot m.Value
    show Option.bind (Option.bind (m_vote_Accept (vtW w m.To) m.Ballot m.Value) _) _ = _
    rw [hr]
    simp only [Option.bind_some]
    by_cases h0 : r.2 = 0
    · rw [if_pos (h1.1 h0), h2 h0, if_neg (by simpa using h0), if_pos (by omega)]
      simp only [Option.bind_some]
      rw [if_pos (by simp; omega)]
      rfl
    · rw [if_neg (fun k => h0 (h1.2 k)), if_pos h0, if_pos (by omega)]
      simp only [Option.bind_some]
      rw [if_pos (by simp; omega)]
      rfl
end Go.Proofs
end

/- Texts of the proof. -/
import Derived.Test.YtbbinddkhlmlcaaDecreeLaterPm
section
namespace Go.Proofs
open Go.Tm
set_option linter.unusedSimpArgs false
theorem vcheck_eq (v : TVote) : m_vote_Check v = some (if VOk v then 0 else 8) := by
 unfold VOk
 simp only [m_vote_Check, bcheck_eq]
 by_cases h1 : v.Promised = 0 <;> by_cases h2 : v.Ballot = 0 <;> by_cases h3 : BOk v.Promised <;> by_cases h4 : BOk v.Ballot <;> by_cases h5 : v.Value = [] <;> by_cases h6 : v.Ballot ≤ v.Promised <;> by_cases h7 : v.Value.length ≤ 1024 <;> have h8 : ((v.Value.length : Int) ≤ 1024) = (v.Value.length ≤ 1024) := propext (by omega) <;> simp_all
theorem asked_eq (v : TVote) (b : Int) (t : List UInt8) : ∃ e, m_vote_asked v b t = some e ∧ (e = 0 ↔ AskedS v b t) := by
 simp only [m_vote_asked, bcheck_eq, vcheck_eq, Option.bind_some]
 unfold AskedS
 by_cases h1 : VOk v
 ·by_cases h2 : BOk b
  ·by_cases h3 : t.length ≤ 1024
   ·by_cases h4 : v.Promised ≤ b
    ·exact ⟨0, by simp [h1, h2]; rw [if_neg (by omega), if_neg (by omega)], by simp [h1, h2, h3, h4]⟩
    ·exact ⟨70, by simp [h1, h2]; rw [if_neg (by omega), if_pos (by omega)], by simp [h4]⟩
   ·exact ⟨3, by simp [h1, h2]; omega, by simp [h3]⟩
  ·exact ⟨50, by simp [h1, h2], by simp [h2]⟩
 ·exact ⟨8, by simp [h1], by simp [h1]⟩
theorem prepare_eq (v : TVote) (b : Int) : ∃ r, m_vote_Prepare v b = some r ∧ (r.2 = 0 ↔ AskedS v b []) ∧ (r.2 = 0 → r.1 = { v with Promised := b }) := by
 obtain ⟨e, h1, h2⟩ := asked_eq v b []
 rw [m_vote_Prepare, h1]
 by_cases h0 : e = 0
 ·exact ⟨({ v with Promised := b }, 0), by simp [h0], ⟨fun _ => h2.1 h0, fun _ => rfl⟩, fun _ => rfl⟩
 ·exact ⟨(⟨0, 0, []⟩, e), by simp [h0], h2, fun h => absurd h h0⟩
theorem accept_eq (v : TVote) (b : Int) (t : List UInt8) : ∃ r, m_vote_Accept v b t = some r ∧ (r.2 = 0 ↔ AskedS v b t) ∧ (r.2 = 0 → r.1 = ⟨b, b, t⟩) := by
 obtain ⟨e, h1, h2⟩ := asked_eq v b t
 rw [m_vote_Accept, h1]
 by_cases h0 : e = 0
 ·exact ⟨(⟨b, b, t⟩, 0), by simp [h0], ⟨fun _ => h2.1 h0, fun _ => rfl⟩, fun _ => rfl⟩
 ·exact ⟨(⟨0, 0, []⟩, e), by simp [h0], h2, fun h => absurd h h0⟩
theorem node_eq (n : Int) : m_decree_node n = some (decide (0 ≤ n ∧ n < 6)) := by
 rw [m_decree_node]
 congr 1
 rw [Bool.eq_iff_iff]
 simp
theorem bnode_eq (n : Int) : m_ballot_node n = some (decide (0 ≤ n ∧ n < 6)) := by
 rw [m_ballot_node]
 congr 1
 rw [Bool.eq_iff_iff]
 simp
theorem wr64 (n : Int) (h : -9223372036854775808 ≤ n ∧ n ≤ 9223372036854775807) : wr .i64 n = n := wr_eq .i64 n (by simpa [IntKind.min, IntKind.max, IntKind.signed, IntKind.bits] using h.1) (by simpa [IntKind.min, IntKind.max, IntKind.signed, IntKind.bits] using h.2)
theorem next_eq (a n : Int) : ∃ r, m_ballot_Next a n = some r ∧ (r.2 = 0 → 0 ≤ n ∧ n < 6 ∧ 0 ≤ a ∧ a < r.1 ∧ 8 ≤ r.1 ∧ BOk r.1 ∧ ownB r.1 = n.toNat) := by
 rw [m_ballot_Next, bnode_eq]
 simp only [Option.bind_some]
 by_cases h : 0 ≤ n ∧ n < 6 ∧ 0 ≤ a ∧ a ≤ 8388613
 ·obtain ⟨h1, h2, h3, h4⟩ := h
  rw [if_neg (by simp; omega)]
  have e1 : a.tdiv 8 = a / 8 := Int.tdiv_eq_ediv_of_nonneg h3
  have e2 : wr .i64 (a / 8) = a / 8 := wr64 _ (by omega)
  have e3 : wr .i64 (a / 8 * 8) = a / 8 * 8 := wr64 _ (by omega)
  have e4 : wr .i64 (a / 8 * 8 + n) = a / 8 * 8 + n := wr64 _ (by omega)
  have e5 : wr .i64 (a / 8 * 8 + n + 8) = a / 8 * 8 + n + 8 := wr64 _ (by omega)
  simp only [e1, e2, e3, e4, e5]
  have key : ∀ b : Int, a < b → 8 ≤ b → b ≤ 8388613 → b % 8 = n → 0 ≤ n ∧ n < 6 ∧ 0 ≤ a ∧ a < b ∧ 8 ≤ b ∧ BOk b ∧ ownB b = n.toNat := by
   intro b k1 k2 k3 k4
   refine ⟨h1, h2, h3, k1, k2, ?_, ?_⟩
   ·unfold BOk
    rw [Int.tdiv_eq_ediv_of_nonneg (by omega), Int.tmod_eq_emod_of_nonneg (by omega), wr64 _ (by omega)]
    omega
   ·unfold ownB
    rw [Int.tmod_eq_emod_of_nonneg (by omega), k4]
  split
  ·simp only [Option.bind_some]
   split
   ·exact ⟨_, rfl, fun h => by simp at h⟩
   ·exact ⟨_, rfl, fun _ => key _ (by omega) (by omega) (by dsimp only; omega) (by dsimp only; omega)⟩
  ·simp only [Option.bind_some]
   split
   ·exact ⟨_, rfl, fun h => by simp at h⟩
   ·exact ⟨_, rfl, fun _ => key _ (by dsimp only; omega) (by dsimp only; omega) (by dsimp only; omega) (by dsimp only; omega)⟩
 ·rw [if_pos (by simp; omega)]
  exact ⟨_, rfl, fun h => by simp at h⟩
def MOk (m : TMail) : Prop := (0 ≤ m.From ∧ m.From < 6) ∧ (0 ≤ m.To ∧ m.To < 6) ∧ 1 ≤ m.Kind ∧ m.Kind ≤ 5 ∧ BOk m.Ballot ∧ 0 ≤ m.Prior ∧ m.Value.length ≤ 1024 ∧ m.Group = 0 ∧ m.Slot = 0 ∧ m.Id = 0 ∧ m.Time = 0
instance (m : TMail) : Decidable (MOk m) := by unfold MOk; infer_instance
theorem mail_eq (m : TMail) : m_decree_mail m = some (decide (MOk m)) := by
 unfold MOk
 simp only [m_decree_mail, node_eq, bcheck_eq, Option.bind_some]
 by_cases h1 : 0 ≤ m.From ∧ m.From < 6
 ·by_cases h2 : 0 ≤ m.To ∧ m.To < 6
  ·by_cases h3 : m.Kind ≥ 1
   ·by_cases h4 : m.Kind ≤ 5
    ·by_cases h5 : BOk m.Ballot
     ·simp only [h1, h2, h3, h4, h5, decide_true, Bool.true_and, true_and, and_true, if_true, and_self, Option.bind_some]
      congr 1
      rw [Bool.eq_iff_iff]
      simp
      omega
     ·simp [h1, h2, h3, h4, h5]
    ·simp [h1, h2, h4]
   ·simp [h1, h2, show ¬ 1 ≤ m.Kind from h3]
  ·simp [h1, h2]
 ·simp [h1]
structure WOk (w : TWorld) : Prop where
 mem : QOk w.Members
 vts : w.Votes.length = 6
 trs : w.Tries.length = 6
 mail : w.Mail.length ≤ 1000
 ch : w.Chosen.length ≤ 1000
 vote : ∀ i : Nat, i < 6 → VOk (w.Votes.getD i default)
 try_ : ∀ i : Nat, i < 6 → Valid (w.Tries.getD i default) ∧ ((w.Tries.getD i default).Phase ≠ 0 → ownB (w.Tries.getD i default).Ballot = i ∧ (w.Tries.getD i default).Members = w.Members)
 mails : ∀ m ∈ w.Mail, MOk m
 chs : ∀ c ∈ w.Chosen, (0 ≤ c.Node ∧ c.Node < 6) ∧ c.Value.length ≤ 1024
theorem cl3_eq (l : List TChoice) : ∀ b, m_decree_Check_loop3 l b = some (b && decide (∀ c ∈ l, (0 ≤ c.Node ∧ c.Node < 6) ∧ c.Value.length ≤ 1024)) := by
 induction l with
 | nil => intro b; rw [m_decree_Check_loop3_n]; simp
 | cons y l ih =>
  intro b
  rw [m_decree_Check_loop3_c]
  simp only [node_eq]
  cases b
  ·simp [ih]
  ·simp only [if_true, Option.bind_some, ih]
   congr 1
   rw [Bool.eq_iff_iff]
   simp
   have : ((y.Value.length : Int) ≤ 1024) ↔ y.Value.length ≤ 1024 := by omega
   simp [this]
theorem cl2_eq (l : List TMail) : ∀ b, m_decree_Check_loop2 l b = some (b && decide (∀ m ∈ l, MOk m)) := by
 induction l with
 | nil => intro b; rw [m_decree_Check_loop2]; simp
 | cons y l ih =>
  intro b
  rw [m_decree_Check_loop2]
  simp only [mail_eq]
  cases b
  ·simp [ih]
  ·simp only [if_true, Option.bind_some, ih]
   congr 1
   rw [Bool.eq_iff_iff]
   simp
end Go.Proofs
end
section
namespace Go.Proofs
open Go.Tm
set_option linter.unusedSimpArgs false
theorem of_eq (b : Int) : ∃ r, m_ballot_Of b = some r ∧ (BOk b → r.2.1 = b.tmod 8) := by
 rw [m_ballot_Of]
 simp only [bnode_eq]
 unfold BOk
 by_cases h : wr .i64 (b.tdiv 8) < 1 ∨ wr .i64 (b.tdiv 8) > 1048576
 ·exact ⟨(0, 0, 50), by simp [h], fun k => absurd h k.1⟩
 ·by_cases h1 : b.tmod 8 ≥ 0 <;> by_cases h2 : b.tmod 8 < 6 <;> simp [h, h1, h2]
def TOk (w : TWorld) (i : Nat) : Prop := VOk (w.Votes.getD i default) ∧ Valid (w.Tries.getD i default) ∧ ((w.Tries.getD i default).Phase ≠ 0 → ownB (w.Tries.getD i default).Ballot = i ∧ (w.Tries.getD i default).Members = w.Members)
theorem cl1_eq (w : TWorld) (hv : w.Votes.length = 6) (ht : w.Tries.length = 6) (hl : ∀ t ∈ w.Tries, t.Promises.length < 1000000) : ∀ (l : List TAttempt) (n : Nat) (b : Bool), w.Tries.drop n = l → ∃ r, m_decree_Check_loop1 w l n b = some r ∧ (r = true ↔ b = true ∧ ∀ i, n ≤ i → i < 6 → TOk w i) := by
 intro l
 induction l with
 | nil =>
  intro n b hd
  have hn : 6 ≤ n := by rw [← ht]; exact List.drop_eq_nil_iff.1 hd
  exact ⟨b, by rw [m_decree_Check_loop1], by constructor; exact fun h => ⟨h, fun i h1 h2 => by omega⟩; exact fun h => h.1⟩
 | cons y l ih =>
  intro n b hd
  have hn : n < w.Tries.length := by
   apply Nat.lt_of_not_le
   intro h
   rw [List.drop_eq_nil_iff.2 h] at hd
   cases hd
  have hy : w.Tries.getD n default = y := by
   have h1 := List.drop_eq_getElem_cons hn
   rw [hd] at h1
   rw [List.getD_eq_getElem?_getD, List.getElem?_eq_getElem hn]
   exact (List.cons.inj h1).1.symm
  have hd2 : w.Tries.drop (n + 1) = l := by
   rw [← List.drop_drop, hd]
   rfl
  have hym : y ∈ w.Tries := by
   have h1 : y ∈ w.Tries.drop n := by rw [hd]; exact List.mem_cons_self ..
   exact List.mem_of_mem_drop h1
  obtain ⟨e, he, hva⟩ := check_eq y (hl y hym)
  obtain ⟨r, hr, hrb⟩ := of_eq y.Ballot
  rw [m_decree_Check_loop1, if_pos (by omega)]
  simp only [vcheck_eq, he, hr, Option.bind_some]
  suffices hs : ∃ b3 : Bool, (Option.bind (if b = true then some (if VOk (w.Votes.getD n default) then (0 : Int) else 8) else some default) fun v2 =>
  Option.bind (if (b = true) ∧ (v2 = 0) then some e else some default) fun v3 =>
  if ¬ (y.Phase = 0) then
  Option.bind (if (((b = true) ∧ (v2 = 0)) ∧ (v3 = 0)) ∧ (r.2.1 = (n : Int)) then m_slices_Equal_int_int (y.Members) w.Members else some default) fun v5 =>
  some ((((b && (v2 == 0)) && (v3 == 0)) && (r.2.1 == (n : Int))) && v5)
  else
  some ((b && (v2 == 0)) && (v3 == 0))) = some b3 ∧ (b3 = true ↔ b = true ∧ TOk w n) by
   obtain ⟨b3, h1, h2⟩ := hs
   rw [h1]
   obtain ⟨q, h3, h4⟩ := ih (n + 1) b3 hd2
   refine ⟨q, h3, h4.trans ?_⟩
   rw [h2]
   constructor
   ·rintro ⟨⟨h5, h6⟩, h7⟩
    refine ⟨h5, fun i hi h6i => ?_⟩
    by_cases hin : i = n
    ·rw [hin]; exact h6
    ·exact h7 i (by omega) h6i
   ·rintro ⟨h5, h6⟩
    exact ⟨⟨h5, h6 n (Nat.le_refl _) (by omega)⟩, fun i hi h6i => h6 i (by omega) h6i⟩
  unfold TOk
  rw [hy]
  generalize w.Votes.getD n default = vt
  cases b with
  | false =>
   simp only [Bool.false_eq_true, if_false, false_and, Option.bind_some, Bool.false_and]
   by_cases hp : y.Phase = 0
   ·exact ⟨false, by simp [hp], by simp⟩
   ·exact ⟨false, by simp [hp], by simp⟩
  | true =>
   by_cases hV : VOk vt
   ·by_cases h0 : e = 0
    ·have hvy := hva.1 h0
     by_cases hp : y.Phase = 0
     ·exact ⟨true, by simp [hV, h0, hp], by simp [hV, hvy, hp]⟩
     ·have hk := hvy.kept hp
      have hrt := hrb hk.ballot
      have ho : r.2.1 = (n : Int) ↔ ownB y.Ballot = n := by
       rw [hrt]
       unfold ownB
       have := hk.ballot.2.1
       omega
      by_cases hb : r.2.1 = (n : Int)
      ·rw [equal_eq]
       refine ⟨decide (y.Members = w.Members), by simp [hV, h0, hp, hb], ?_⟩
       simp [hV, hvy, hp, ho.1 hb]
      ·have hb2 : ¬ ownB y.Ballot = n := fun h => hb (ho.2 h)
       exact ⟨false, by simp [hV, h0, hp, hb], by simp [hp, hb2]⟩
    ·have hvy : ¬ Valid y := fun h => h0 (hva.2 h)
     by_cases hp : y.Phase = 0
     ·exact ⟨false, by simp [hV, h0, hp], by simp [hvy]⟩
     ·exact ⟨false, by simp [hV, h0, hp], by simp [hvy]⟩
   ·by_cases hp : y.Phase = 0
    ·exact ⟨false, by simp [hV, hp], by simp [hV]⟩
    ·exact ⟨false, by simp [hV, hp], by simp [hV]⟩
theorem dcheck_eq (w : TWorld) (hl : ∀ t ∈ w.Tries, t.Promises.length < 1000000) : ∃ e, m_decree_Check w = some e ∧ (e = 0 ↔ WOk w) := by
 rw [m_decree_Check, qcheck_eq]
 simp only [Option.bind_some]
 by_cases hq : QOk w.Members
 ·have h1 : (if w.Members.length > 6 then (4 : Int) else if risesP (-1) w.Members = true ∧ w.Members ≠ [] then 0 else 60) = 0 := by
   rw [if_neg (by have := hq.1; omega), if_pos hq.2]
  rw [h1]
  by_cases h : w.Votes.length = 6 ∧ w.Tries.length = 6 ∧ w.Mail.length ≤ 1000 ∧ w.Chosen.length ≤ 1000
  ·obtain ⟨h2, h3, h4, h5⟩ := h
   rw [if_neg (by omega)]
   obtain ⟨r, hr, hr2⟩ := cl1_eq w h2 h3 hl w.Tries 0 (((((0 == (0:Int)) && ((w.Votes.length : Int) == 6)) && ((w.Tries.length : Int) == 6)) && (decide ((w.Mail.length : Int) ≤ 1000))) && (decide ((w.Chosen.length : Int) ≤ 1000))) rfl
   rw [hr]
   simp only [Option.bind_some, cl2_eq, cl3_eq]
   have hb : (((((0 == (0:Int)) && ((w.Votes.length : Int) == 6)) && ((w.Tries.length : Int) == 6)) && (decide ((w.Mail.length : Int) ≤ 1000))) && (decide ((w.Chosen.length : Int) ≤ 1000))) = true := by
    simp; omega
   rw [hb] at hr2
   have hw : WOk w ↔ (r && decide (∀ m ∈ w.Mail, MOk m) && decide (∀ c ∈ w.Chosen, (0 ≤ c.Node ∧ c.Node < 6) ∧ c.Value.length ≤ 1024)) = true := by
    rw [Bool.and_eq_true, Bool.and_eq_true, hr2, decide_eq_true_iff, decide_eq_true_iff]
    constructor
    ·exact fun k => ⟨⟨⟨rfl, fun i _ hi => ⟨k.vote i hi, k.try_ i hi⟩⟩, k.mails⟩, k.chs⟩
    ·exact fun k => ⟨hq, h2, h3, h4, h5, fun i hi => (k.1.1.2 i (Nat.zero_le _) hi).1, fun i hi => (k.1.1.2 i (Nat.zero_le _) hi).2, k.1.2, k.2⟩
   by_cases hb3 : (r && decide (∀ m ∈ w.Mail, MOk m) && decide (∀ c ∈ w.Chosen, (0 ≤ c.Node ∧ c.Node < 6) ∧ c.Value.length ≤ 1024)) = true
   ·exact ⟨0, by rw [if_neg (by rw [hb3]; simp)], ⟨fun _ => hw.2 hb3, fun _ => rfl⟩⟩
   ·exact ⟨8, by rw [if_pos hb3], ⟨fun h => by simp at h, fun h => absurd (hw.1 h) hb3⟩⟩
  ·rw [if_pos (by omega)]
   exact ⟨8, rfl, fun h => by simp at h, fun k => absurd ⟨k.vts, k.trs, k.mail, k.ch⟩ h⟩
 ·rw [if_pos]
  ·exact ⟨8, rfl, fun h => by simp at h, fun k => absurd k.mem hq⟩
  ·intro h
   have h1 := h.1.1.1.1
   split at h1
   ·simp at h1
   ·rename_i h2
    split at h1
    ·rename_i h3
     exact hq ⟨by omega, h3⟩
    ·simp at h1
end Go.Proofs
end
section
namespace Go.Proofs
open Go.Tm
set_option linter.unusedSimpArgs false
theorem Valid.len {a : TAttempt} (h : Valid a) : a.Members.length ≤ 6 ∧ a.Promises.length ≤ 6 ∧ a.Accepted.length ≤ 6 := by
 by_cases h0 : a.Phase = 0
 ·unfold Valid at h
  rw [if_pos h0] at h
  subst h
  simp
 ·exact (h.kept h0).lens
theorem WOk.proms {w : TWorld} (h : WOk w) : ∀ t ∈ w.Tries, t.Promises.length < 1000000 := by
 intro t ht
 obtain ⟨i, hi, rfl⟩ := List.getElem_of_mem ht
 have h6 : i < 6 := by rw [← h.trs]; exact hi
 have hv := (h.try_ i h6).1.len.2.1
 rw [List.getD_eq_getElem?_getD, List.getElem?_eq_getElem hi] at hv
 simp only [Option.getD_some] at hv
 omega
theorem begin_eq' (m : List Int) (b : Int) (w : List UInt8) : ∃ r, m_attempt_Begin m b w = some r ∧ (r.2 = 0 → QOk m ∧ BOk b ∧ w.length ≤ 1024 ∧ r.1 = ⟨1, b, m, w, [], [], []⟩) := by
 rw [m_attempt_Begin]
 by_cases hq : QOk m
 ·rw [qcheck_eq, if_neg (by have := hq.1; omega), if_pos hq.2]
  simp only [Option.bind_some, not_true_eq_false, if_false, bcheck_eq]
  by_cases hb : BOk b
  ·rw [if_pos hb]
   simp only [not_true_eq_false, if_false]
   by_cases hw : w.length ≤ 1024
   ·rw [if_neg (by omega), m_slices_Clone_int_int, if_pos (by have := hq.1; omega)]
    exact ⟨_, rfl, fun _ => ⟨hq, hb, hw, rfl⟩⟩
   ·rw [if_pos (by omega)]
    exact ⟨_, rfl, by simp⟩
  ·rw [if_neg hb, if_pos (by simp)]
   exact ⟨_, rfl, by simp⟩
 ·obtain ⟨e, he, hne⟩ := qcheck_ne hq
  rw [he]
  simp only [Option.bind_some]
  rw [if_pos hne]
  exact ⟨_, rfl, fun h => absurd h hne⟩
theorem set_getD {α : Type} (l : List α) (n : Nat) (d : α) : l.set n (l.getD n d) = l := by
 apply List.ext_getElem
 ·simp
 ·intro i h1 h2
  by_cases e : n = i
  ·subst e
   simp [List.getD, h2]
  ·simp [List.getElem_set_ne e]
theorem twin_loop (l : List TAttempt) (hl : l.length = 6) (hv : ∀ i, i < 6 → Valid (l.getD i default)) : ∀ (k n fu : Nat), n + k = 6 → k < fu → m_decree_Twin_loop1 l fu l (n : Int) = some l := by
 intro k
 induction k with
 | zero =>
  intro n fu hn hf
  obtain ⟨f, rfl⟩ : ∃ f, fu = f + 1 := ⟨fu - 1, by omega⟩
  rw [m_decree_Twin_loop1, if_neg (by omega), if_pos (by omega)]
 | succ k ih =>
  intro n fu hn hf
  obtain ⟨f, rfl⟩ : ∃ f, fu = f + 1 := ⟨fu - 1, by omega⟩
  have h1 := (hv n (by omega)).len
  rw [m_decree_Twin_loop1, if_pos (by omega), if_pos (by omega), Int.toNat_natCast, twin_eq _ (by omega) (by omega) (by omega)]
  simp only [Option.bind_some]
  rw [if_pos (by omega), if_pos (by omega), set_getD, wr64 _ (by omega), show (n : Int) + 1 = ((n + 1 : Nat) : Int) from rfl]
  exact ih (n + 1) f (by omega) (by omega)
theorem dtwin_eq {w : TWorld} (h : WOk w) : m_decree_Twin w = some w := by
 have h6 := h.mem.1
 have h1 := h.vts
 have h2 := h.trs
 have h3 := h.mail
 have h4 := h.ch
 rw [m_decree_Twin, m_slices_Clone_int_int, m_slices_Clone_Vote_Vote, m_slices_Clone_Mail_Mail, m_slices_Clone_Choice_Choice, m_slices_Clone_Attempt_Attempt]
 rw [if_pos (by omega), if_pos (by omega), if_pos (by omega), if_pos (by omega), if_pos (by omega)]
 simp only [Option.bind_some]
 have := twin_loop w.Tries h2 (fun i hi => (h.try_ i hi).1) 6 0 (w.Tries.length + 1) rfl (by omega)
 rw [show ((0 : Nat) : Int) = 0 from rfl] at this
 rw [this]
 rfl
theorem tell_loop (w : TWorld) (m : TMail) (h6 : w.Members.length ≤ 6) : ∀ (k n fu : Nat) (l : List TMail) (j : Int), n + k = w.Members.length → k < fu → l.length + k < 1000000 → m_decree_world_tell_loop1 ⟨w⟩ m fu l j (n : Int) = some ⟨{ w with Mail := l ++ ((w.Members.drop n).filter fun to => decide (to ≠ m.From)).map fun to => { m with To := to } }⟩ := by
 intro k
 induction k with
 | zero =>
  intro n fu l j hn hf _
  obtain ⟨f, rfl⟩ : ∃ f, fu = f + 1 := ⟨fu - 1, by omega⟩
  rw [m_decree_world_tell_loop1, if_neg (by dsimp only; omega), List.drop_eq_nil_of_le (by omega)]
  simp
 | succ k ih =>
  intro n fu l j hn hf hl
  obtain ⟨f, rfl⟩ : ∃ f, fu = f + 1 := ⟨fu - 1, by omega⟩
  have hlt : n < w.Members.length := by omega
  have hd := List.drop_eq_getElem_cons hlt
  have hg : w.Members.getD n default = w.Members[n] := by
   rw [List.getD_eq_getElem?_getD, List.getElem?_eq_getElem hlt]
   rfl
  rw [m_decree_world_tell_loop1, if_pos (by dsimp only; omega), if_pos (by dsimp only; omega)]
  simp only [Int.toNat_natCast]
  rw [hg, hd, wr64 _ (by omega), show (n : Int) + 1 = ((n + 1 : Nat) : Int) from rfl]
  by_cases he : w.Members[n] = m.From
  ·rw [if_neg (by simpa using he)]
   simp only [Option.bind_some]
   rw [ih (n + 1) f l _ (by omega) (by omega) (by omega)]
   simp [he]
  ·rw [if_pos he, if_pos (by simp; omega)]
   simp only [Option.bind_some]
   rw [ih (n + 1) f _ _ (by omega) (by omega) (by simp; omega), List.filter_cons, if_pos (by simpa using he), List.map_cons, List.append_assoc]
   rfl
theorem tell_eq (w : TWorld) (m : TMail) (h6 : w.Members.length ≤ 6) (hl : w.Mail.length ≤ 2000) : m_decree_world_tell ⟨w⟩ m = some ⟨tellS w m⟩ := by
 rw [m_decree_world_tell]
 have := tell_loop w m h6 w.Members.length 0 (w.Members.length + 1) w.Mail m.To (by omega) (by omega) (by omega)
 rw [show ((0 : Nat) : Int) = 0 from rfl] at this
 exact this
theorem taken_eq (w : TWorld) (n b q : Int) (hn : 0 ≤ n ∧ n < 6) (ht : w.Tries.length = 6) (hc : w.Chosen.length ≤ 2000) (hl : (trW w n).Promises.length < 1000000) : m_decree_world_taken ⟨w⟩ n b q = some ⟨takenW w n b q⟩ := by
 rw [m_decree_world_taken, if_pos (by dsimp only; omega)]
 obtain ⟨r, hr, h1, h2⟩ := accepted_eq (trW w n) b q hl
 show Option.bind (m_attempt_Accepted (trW w n) b q) _ = _
 rw [hr]
 simp only [Option.bind_some]
 unfold takenW
 by_cases h0 : r.2 = 0
 ·rw [if_neg (by simpa using h0), if_pos (h1.1 h0), h2 h0, if_pos (by intro _; omega)]
  by_cases h3 : (acceptedS (trW w n) q).Phase = 3 ∧ ¬ (trW w n).Phase = 3
  ·rw [if_pos h3, if_pos (by simp; omega), if_pos (show _ ∧ _ ≠ _ from h3)]
   simp only [Option.bind_some]
   rw [if_pos (by omega)]
  ·rw [if_neg h3, if_neg (show ¬ (_ ∧ _ ≠ _) from h3)]
   simp only [Option.bind_some]
   rw [if_pos (by omega)]
 ·rw [if_pos h0, if_neg (fun h => h0 (h1.2 h))]
theorem ownVote_eq (w : TWorld) (n b : Int) (v : List UInt8) (hn : 0 ≤ n ∧ n < 6) (hvt : w.Votes.length = 6) (ht : w.Tries.length = 6) (hc : w.Chosen.length ≤ 2000) (hl : (trW w n).Promises.length < 1000000) :
  (Option.bind (m_quorum_Has w.Members n) fun v3 =>
 if ¬ (v3 = true) then
 some (⟨w⟩ : Tdecree_world)
 else
 if (0 ≤ n ∧ n < (w.Votes.length : Int)) then
 Option.bind (m_vote_Accept (w.Votes.getD n.toNat default) b v) fun v4 =>
 if v4.2 = 0 then
 if (0 ≤ n ∧ n < (w.Votes.length : Int)) then
 Option.bind (m_decree_world_taken (⟨(⟨w.Members, (w.Votes.set n.toNat v4.1), w.Tries, w.Mail, w.Chosen⟩ : TWorld)⟩ : Tdecree_world) n b n) fun v5 =>
 some v5
 else none
 else
 some (⟨w⟩ : Tdecree_world)
 else none) = some ⟨ownVote w n b v⟩ := by
 rw [has_eq]
 simp only [Option.bind_some]
 unfold ownVote
 by_cases hm : n ∈ w.Members
 ·rw [if_neg (by simpa using hm), if_pos (by omega)]
  obtain ⟨r, hr, h1, h2⟩ := accept_eq (vtW w n) b v
  rw [hr]
  simp only [Option.bind_some]
  by_cases h0 : r.2 = 0
  ·rw [if_pos h0, if_pos (by omega), if_pos ⟨hm, h1.1 h0⟩, h2 h0, taken_eq { w with Votes := w.Votes.set n.toNat ⟨b, b, v⟩ } n b n hn ht hc hl]
   rfl
  ·rw [if_neg h0, if_neg (fun h => h0 (h1.2 h.2))]
 ·rw [if_pos (by simpa using hm), if_neg (fun h => hm h.1)]
end Go.Proofs
end
section
namespace Go.Proofs
open Go.Tm
set_option linter.unusedSimpArgs false
structure Shape (w : TWorld) (k : Nat) : Prop where
 mem : w.Members.length ≤ 6
 vts : w.Votes.length = 6
 trs : w.Tries.length = 6
 mail : w.Mail.length ≤ k
 ch : w.Chosen.length ≤ 1000
theorem getD_set_same {α : Type} (l : List α) (n : Nat) (a d : α) (h : n < l.length) : (l.set n a).getD n d = a := by
 simp [List.getD, h]
theorem tellS_len (w : TWorld) (m : TMail) : (tellS w m).Mail.length ≤ w.Mail.length + w.Members.length := by
 unfold tellS
 simp only [List.length_append, List.length_map]
 have := List.length_filter_le (fun to => decide (to ≠ m.From)) w.Members
 omega
theorem promW_eq (w : TWorld) (n b : Int) (p : TPromise) (hn : 0 ≤ n ∧ n < 6) (h : Shape w 1500) (hl : (trW w n).Promises.length < 1000000) : m_decree_world_promised ⟨w⟩ n b p = some ⟨promisedW w n b p⟩ := by
 have ht := h.trs
 rw [m_decree_world_promised, if_pos (by dsimp only; omega)]
 obtain ⟨r, hr, h1, h2⟩ := promised_eq (trW w n) b p hl
 show Option.bind (m_attempt_Promised (trW w n) b p) _ = _
 rw [hr]
 simp only [Option.bind_some]
 unfold promisedW
 by_cases h0 : r.2 = 0
 ·have hc := h1.1 h0
  rw [if_neg (by simpa using h0), if_pos (by omega), if_pos hc, h2 h0]
  by_cases h3 : (promisedS (trW w n) p).Phase = 1
  ·rw [if_pos h3, if_pos h3]
  ·rw [if_neg h3, if_neg h3]
   have e := tell_eq { w with Tries := w.Tries.set n.toNat (promisedS (trW w n) p) } ⟨n, 0, 3, 0, 0, b, 0, (promisedS (trW w n) p).Value, 0, 0⟩ h.mem (by have := h.mail; show w.Mail.length ≤ 2000; omega)
   rw [e]
   simp only [Option.bind_some]
   have hv := promised_kept (a := trW w n) (p := p) ⟨hc.1, hc.2.1, rfl, hc.2.2.2.1, hc.2.2.1 ▸ hc.2.2.2.2⟩
   have e2 := ownVote_eq (tellS { w with Tries := w.Tries.set n.toNat (promisedS (trW w n) p) } ⟨n, 0, 3, 0, 0, b, 0, (promisedS (trW w n) p).Value, 0, 0⟩) n b (promisedS (trW w n) p).Value hn h.vts (by show (w.Tries.set n.toNat _).length = 6; simpa using h.trs) (by have := h.ch; show w.Chosen.length ≤ 2000; omega) (by
    show ((w.Tries.set n.toNat (promisedS (trW w n) p)).getD n.toNat default).Promises.length < 1000000
    rw [getD_set_same _ _ _ _ (by omega)]
    have := hv.len.2.1
    omega)
   exact e2
 ·rw [if_pos h0, if_neg (fun k => h0 (h1.2 k))]
theorem beginW_eq (w : TWorld) (n : Int) (t : List UInt8) (hn : 0 ≤ n ∧ n < 6) (h : Shape w 1000) : ∃ r, m_decree_world_begin ⟨w⟩ n t = some r ∧ (r.1 = 0 → ∃ b, QOk w.Members ∧ AskedS (vtW w n) b [] ∧ t.length ≤ 1024 ∧ 0 ≤ (vtW w n).Promised ∧ (vtW w n).Promised < b ∧ 8 ≤ b ∧ ownB b = n.toNat ∧ r.2 = ⟨beginW w n b t⟩) := by
 have hv := h.vts
 have ht := h.trs
 rw [m_decree_world_begin, if_pos (by dsimp only; omega)]
 obtain ⟨r1, hr1, k1⟩ := next_eq (vtW w n).Promised n
 show ∃ r, Option.bind (m_ballot_Next (vtW w n).Promised n) _ = some r ∧ _
 rw [hr1]
 simp only [Option.bind_some]
 by_cases h0 : r1.2 = 0
 ·obtain ⟨_, _, k2, k3, k4, k5, k6⟩ := k1 h0
  rw [if_neg (by simpa using h0)]
  obtain ⟨r2, hr2, a1, a2⟩ := prepare_eq (vtW w n) r1.1
  show ∃ r, Option.bind (m_vote_Prepare (vtW w n) r1.1) _ = some r ∧ _
  rw [hr2]
  simp only [Option.bind_some]
  rw [if_pos (by omega)]
  by_cases h2 : r2.2 = 0
  ·rw [if_neg (by simpa using h2), a2 h2]
   obtain ⟨r3, hr3, b1⟩ := begin_eq' w.Members r1.1 t
   rw [hr3]
   simp only [Option.bind_some]
   rw [if_pos (by omega)]
   by_cases h3 : r3.2 = 0
   ·obtain ⟨c1, c2, c3, c4⟩ := b1 h3
    rw [if_neg (by simpa using h3), c4]
    have e := tell_eq { w with Votes := w.Votes.set n.toNat { vtW w n with Promised := r1.1 }, Tries := w.Tries.set n.toNat ⟨1, r1.1, w.Members, t, [], [], []⟩ } ⟨n, 0, 1, 0, 0, r1.1, 0, [], 0, 0⟩ h.mem (by have := h.mail; show w.Mail.length ≤ 2000; omega)
    rw [e]
    simp only [Option.bind_some]
    have hlen := tellS_len { w with Votes := w.Votes.set n.toNat { vtW w n with Promised := r1.1 }, Tries := w.Tries.set n.toNat ⟨1, r1.1, w.Members, t, [], [], []⟩ } ⟨n, 0, 1, 0, 0, r1.1, 0, [], 0, 0⟩
    have e2 := promW_eq (tellS { w with Votes := w.Votes.set n.toNat { vtW w n with Promised := r1.1 }, Tries := w.Tries.set n.toNat ⟨1, r1.1, w.Members, t, [], [], []⟩ } ⟨n, 0, 1, 0, 0, r1.1, 0, [], 0, 0⟩) n r1.1 ⟨n, (vtW w n).Ballot, (vtW w n).Value⟩ hn ⟨h.mem, by show (w.Votes.set _ _).length = 6; simpa using hv, by show (w.Tries.set _ _).length = 6; simpa using ht, Nat.le_trans hlen (by have := h.mem; have := h.mail; show w.Mail.length + w.Members.length ≤ 1500; omega), h.ch⟩ (by
     show ((w.Tries.set n.toNat ⟨1, r1.1, w.Members, t, [], [], []⟩).getD n.toNat default).Promises.length < 1000000
     rw [getD_set_same _ _ _ _ (by omega)]
     simp)
    refine ⟨_, by rw [e2]; rfl, fun _ => ⟨r1.1, c1, a1.1 h2, c3, k2, k3, k4, k6, rfl⟩⟩
   ·rw [if_pos h3]
    exact ⟨_, rfl, fun h => absurd h h3⟩
  ·rw [if_pos h2]
   refine ⟨(r2.2, ⟨{ w with Votes := w.Votes.set n.toNat r2.1 }⟩), ?_, fun h => absurd h h2⟩
   rfl
 ·rw [if_pos h0]
  exact ⟨_, rfl, fun h => absurd h h0⟩
theorem comeW_eq (w : TWorld) (m : TMail) (hm : MOk m) (h : Shape w 1000) (hl : ∀ t ∈ w.Tries, t.Promises.length < 1000000) : m_decree_world_come ⟨w⟩ m = some ⟨comeW w m⟩ := by
 obtain ⟨_, hto, hk1, hk2, _⟩ := hm
 have hv := h.vts
 have ht := h.trs
 have hc := h.ch
 have hml := h.mail
 have hlt : (trW w m.To).Promises.length < 1000000 := by
  have h1 : m.To.toNat < w.Tries.length := by omega
  have h2 : w.Tries.getD m.To.toNat default = w.Tries[m.To.toNat] := by
   rw [List.getD_eq_getElem?_getD, List.getElem?_eq_getElem h1]
   rfl
  show (w.Tries.getD m.To.toNat default).Promises.length < 1000000
  rw [h2]
  exact hl _ (List.getElem_mem h1)
 rw [m_decree_world_come, if_pos (by dsimp only; omega)]
 unfold comeW
 by_cases c2 : m.Kind = 2
 ·rw [if_pos c2, if_pos c2, promW_eq w m.To m.Ballot _ hto ⟨h.mem, hv, ht, by omega, hc⟩ hlt]
  rfl
 rw [if_neg c2, if_neg c2]
 by_cases c4 : m.Kind = 4
 ·rw [if_pos c4, if_pos c4, taken_eq w m.To m.Ballot m.From hto ht (by omega) hlt]
  rfl
 rw [if_neg c4, if_neg c4]
 by_cases c5 : m.Kind = 5
 ·rw [if_pos c5, if_pos c5]
  rfl
 rw [if_neg c5, if_neg c5]
 by_cases c1 : m.Kind = 1
 ·rw [if_pos c1, if_pos c1]
  obtain ⟨r, hr, h1, h2⟩ := prepare_eq (vtW w m.To) m.Ballot
  show Option.bind (Option.bind (m_vote_Prepare (vtW w m.To) m.Ballot) _) _ = _
  rw [hr]
  simp only [Option.bind_some]
  by_cases h0 : r.2 = 0
  ·rw [if_pos (h1.1 h0), h2 h0, if_neg (by simpa using h0), if_pos (by omega)]
   simp only [Option.bind_some]
   rw [if_pos (by simp; omega)]
   rfl
  ·rw [if_neg (fun k => h0 (h1.2 k)), if_pos h0, if_pos (by omega)]
   simp only [Option.bind_some]
   rw [if_pos (by simp; omega)]
   rfl
 ·have c3 : m.Kind = 3 := by omega
  rw [if_neg c1, if_neg c1, if_pos c3]
  obtain ⟨r, hr, h1, h2⟩ := accept_eq (vtW w m.To) m.Ballot m.Value
  show Option.bind (Option.bind (m_vote_Accept (vtW w m.To) m.Ballot m.Value) _) _ = _
  rw [hr]
  simp only [Option.bind_some]
  by_cases h0 : r.2 = 0
  ·rw [if_pos (h1.1 h0), h2 h0, if_neg (by simpa using h0), if_pos (by omega)]
   simp only [Option.bind_some]
   rw [if_pos (by simp; omega)]
   rfl
  ·rw [if_neg (fun k => h0 (h1.2 k)), if_pos h0, if_pos (by omega)]
   simp only [Option.bind_some]
   rw [if_pos (by simp; omega)]
   rfl
end Go.Proofs
end
section
namespace Go.Proofs
open Go.Tm
set_option linter.unusedSimpArgs false
theorem QOk.nodes {l : List Int} (h : QOk l) : ∀ x ∈ l, 0 ≤ x ∧ x < 6 := fun x hx => by have := rises_lt l (-1) h.2.1 x hx; omega
theorem Valid.value {a : TAttempt} (h : Valid a) : a.Value.length ≤ 1024 ∧ a.Wish.length ≤ 1024 := by
 by_cases h0 : a.Phase = 0
 ·unfold Valid at h
  rw [if_pos h0] at h
  subst h
  simp
 ·have k := h.kept h0
  refine ⟨?_, k.wish⟩
  rcases k.value with h1 | h1
  ·unfold Valid at h
   rw [if_neg h0] at h
   rcases h.1 with h2 | h2 | h2
   ·rw [h2.2.1]; simp
   ·omega
   ·omega
  ·rw [h1]
   obtain ⟨p, _, _, h4⟩ := best_spec a.Promises a.Wish 0
   rcases h4 with ⟨_, h4⟩ | ⟨h5, q, hq, h6, h7⟩
   ·rw [h4]; exact k.wish
   ·rw [h7]
    have := k.may q hq
    unfold MayS at this
    rw [if_neg (by omega)] at this
    exact this.2.2
structure WG (w : TWorld) : Prop where
 mem : QOk w.Members
 vts : w.Votes.length = 6
 trs : w.Tries.length = 6
 vote : ∀ i : Nat, i < 6 → VOk (w.Votes.getD i default) ∧ 0 ≤ (w.Votes.getD i default).Promised ∧ 0 ≤ (w.Votes.getD i default).Ballot
 try_ : ∀ i : Nat, i < 6 → Valid (w.Tries.getD i default) ∧ ((w.Tries.getD i default).Phase ≠ 0 → ownB (w.Tries.getD i default).Ballot = i ∧ (w.Tries.getD i default).Members = w.Members)
 mails : ∀ m ∈ w.Mail, MOk m
 chs : ∀ c ∈ w.Chosen, (0 ≤ c.Node ∧ c.Node < 6) ∧ c.Value.length ≤ 1024
theorem WG.ok {w : TWorld} (h : WG w) (h1 : w.Mail.length ≤ 1000) (h2 : w.Chosen.length ≤ 1000) : WOk w :=
 ⟨h.mem, h.vts, h.trs, h1, h2, fun i hi => (h.vote i hi).1, h.try_, h.mails, h.chs⟩
theorem getD_set_ne {α : Type} (l : List α) (n i : Nat) (a d : α) (h : i ≠ n) : (l.set n a).getD i d = l.getD i d := by
 simp [List.getD, List.getElem?_set_ne (Ne.symm h)]
theorem WG.setVote {w : TWorld} (h : WG w) (n : Nat) (v : TVote) (hv : VOk v) (h1 : 0 ≤ v.Promised) (h2 : 0 ≤ v.Ballot) : WG { w with Votes := w.Votes.set n v } where
 mem := h.mem
 vts := by simpa using h.vts
 trs := h.trs
 vote i hi := by
  have hl := h.vts
  by_cases e : i = n
  ·subst e
   show VOk ((w.Votes.set i v).getD i default) ∧ 0 ≤ ((w.Votes.set i v).getD i default).Promised ∧ 0 ≤ ((w.Votes.set i v).getD i default).Ballot
   rw [getD_set_same _ _ _ _ (by omega)]
   exact ⟨hv, h1, h2⟩
  ·show VOk ((w.Votes.set n v).getD i default) ∧ 0 ≤ ((w.Votes.set n v).getD i default).Promised ∧ 0 ≤ ((w.Votes.set n v).getD i default).Ballot
   rw [getD_set_ne _ _ _ _ _ e]
   exact h.vote i hi
 try_ := h.try_
 mails := h.mails
 chs := h.chs
theorem WG.setTry {w : TWorld} (h : WG w) (n : Nat) (a : TAttempt) (hv : Valid a) (h1 : a.Phase ≠ 0 → ownB a.Ballot = n ∧ a.Members = w.Members) : WG { w with Tries := w.Tries.set n a } where
 mem := h.mem
 vts := h.vts
 trs := by simpa using h.trs
 vote := h.vote
 try_ i hi := by
  have hl := h.trs
  by_cases e : i = n
  ·subst e
   show Valid ((w.Tries.set i a).getD i default) ∧ (((w.Tries.set i a).getD i default).Phase ≠ 0 → ownB ((w.Tries.set i a).getD i default).Ballot = i ∧ ((w.Tries.set i a).getD i default).Members = w.Members)
   rw [getD_set_same _ _ _ _ (by omega)]
   exact ⟨hv, h1⟩
  ·show Valid ((w.Tries.set n a).getD i default) ∧ (((w.Tries.set n a).getD i default).Phase ≠ 0 → ownB ((w.Tries.set n a).getD i default).Ballot = i ∧ ((w.Tries.set n a).getD i default).Members = w.Members)
   rw [getD_set_ne _ _ _ _ _ e]
   exact h.try_ i hi
 mails := h.mails
 chs := h.chs
theorem WG.setMail {w : TWorld} (h : WG w) (M : List TMail) (hM : ∀ m ∈ M, m ∈ w.Mail ∨ MOk m) : WG { w with Mail := M } :=
 ⟨h.mem, h.vts, h.trs, h.vote, h.try_, fun m hm => (hM m hm).elim (h.mails m) id, h.chs⟩
theorem WG.tell {w : TWorld} (h : WG w) (m : TMail) (h1 : 0 ≤ m.From ∧ m.From < 6) (h2 : 1 ≤ m.Kind ∧ m.Kind ≤ 5) (h3 : BOk m.Ballot) (h4 : 0 ≤ m.Prior) (h5 : m.Value.length ≤ 1024) (h6 : m.Group = 0 ∧ m.Slot = 0 ∧ m.Id = 0 ∧ m.Time = 0) : WG (tellS w m) := by
 refine h.setMail _ fun k hk => ?_
 rcases List.mem_append.1 hk with hk | hk
 ·exact .inl hk
 ·obtain ⟨to, hto, rfl⟩ := List.mem_map.1 hk
  have := h.mem.nodes to (List.mem_filter.1 hto).1
  exact .inr ⟨h1, this, h2.1, h2.2, h3, h4, h5, h6.1, h6.2.1, h6.2.2.1, h6.2.2.2⟩
theorem WG.taken {w : TWorld} (h : WG w) (n b q : Int) (hn : 0 ≤ n ∧ n < 6) : WG (takenW w n b q) := by
 unfold takenW
 split
 case isFalse => exact h
 rename_i hc
 have hk := accepted_kept (a := trW w n) (n := q) ⟨hc.1, hc.2.1, rfl, hc.2.2.2⟩
 have ht := (h.try_ n.toNat (by omega)).2 (by have := hc.2.1; show (trW w n).Phase ≠ 0; omega)
 have h2 := h.setTry n.toNat (acceptedS (trW w n) q) hk.1 fun _ => ht
 refine ⟨h2.mem, h2.vts, h2.trs, h2.vote, h2.try_, h2.mails, fun c hcm => ?_⟩
 have hcm : c ∈ (if (acceptedS (trW w n) q).Phase = 3 ∧ (trW w n).Phase ≠ 3 then w.Chosen ++ [⟨n, (acceptedS (trW w n) q).Value⟩] else w.Chosen) := hcm
 split at hcm
 ·rcases List.mem_append.1 hcm with hcm | hcm
  ·exact h.chs c hcm
  ·rw [List.mem_singleton] at hcm
   subst hcm
   exact ⟨hn, hk.1.value.1⟩
 ·exact h.chs c hcm
theorem VOk.acc {b : Int} {v : List UInt8} (hb : BOk b) (hv : v.length ≤ 1024) (h0 : 0 < b) : VOk ⟨b, b, v⟩ := by
 refine ⟨.inr hb, ?_⟩
 show if b = 0 then _ else _
 rw [if_neg (by omega)]
 exact ⟨hb, Int.le_refl _, hv⟩
theorem VOk.prep {v : TVote} (h : VOk v) {b : Int} (hb : BOk b) (hle : v.Promised ≤ b) : VOk { v with Promised := b } := by
 refine ⟨.inr hb, ?_⟩
 have := h.2
 show if v.Ballot = 0 then v.Value = [] else BOk v.Ballot ∧ v.Ballot ≤ b ∧ v.Value.length ≤ 1024
 split
 ·rename_i h0; rw [if_pos h0] at this; exact this
 ·rename_i h0; rw [if_neg h0] at this; exact ⟨this.1, by omega, this.2.2⟩
theorem VOk.value {v : TVote} (h : VOk v) : v.Value.length ≤ 1024 := by
 have := h.2
 split at this
 ·rw [this]; simp
 ·exact this.2.2
theorem BOk.ne {b : Int} (h : BOk b) : b ≠ 0 := by
 rintro rfl
 exact h.1 (.inl (by decide +kernel))
theorem WG.ownVote {w : TWorld} (h : WG w) (n b : Int) (v : List UInt8) (hn : 0 ≤ n ∧ n < 6) : WG (ownVote w n b v) := by
 unfold Go.Proofs.ownVote
 split
 case isFalse => exact h
 rename_i hc
 have h1 : 0 ≤ (vtW w n).Promised := (h.vote n.toNat (by omega)).2.1
 have hb := hc.2.2.1.ne
 have hle := hc.2.2.2.2
 exact (h.setVote n.toNat ⟨b, b, v⟩ (VOk.acc hc.2.2.1 hc.2.2.2.1 (by omega)) (by show 0 ≤ b; omega) (by show 0 ≤ b; omega)).taken n b n hn
theorem WG.promised {w : TWorld} (h : WG w) (n b : Int) (p : TPromise) (hn : 0 ≤ n ∧ n < 6) : WG (promisedW w n b p) := by
 unfold promisedW
 split
 case isFalse => exact h
 rename_i hc
 have hk := promised_kept (a := trW w n) (p := p) ⟨hc.1, hc.2.1, rfl, hc.2.2.2.1, hc.2.2.1 ▸ hc.2.2.2.2⟩
 obtain ⟨e1, e2, _, _⟩ := promisedS_same (trW w n) p
 have ht := (h.try_ n.toNat (by omega)).2 (by have := hc.2.1; show (trW w n).Phase ≠ 0; omega)
 have h2 := h.setTry n.toNat (promisedS (trW w n) p) hk fun _ => ⟨e1 ▸ ht.1, e2.trans ht.2⟩
 split
 ·exact h2
 ·have hkb : BOk b := hc.2.2.1 ▸ (hc.1.kept (by have := hc.2.1; omega)).ballot
  exact (h2.tell ⟨n, 0, 3, 0, 0, b, 0, (promisedS (trW w n) p).Value, 0, 0⟩ hn ⟨by simp, by simp⟩ hkb (by simp) hk.value.1 ⟨rfl, rfl, rfl, rfl⟩).ownVote n b _ hn
theorem WG.begin_ {w : TWorld} (h : WG w) (n b : Int) (t : List UInt8) (hn : 0 ≤ n ∧ n < 6) (ha : AskedS (vtW w n) b []) (ht : t.length ≤ 1024) (hb : 8 ≤ b) (ho : ownB b = n.toNat) : WG (beginW w n b t) := by
 unfold beginW
 have hv := h.vote n.toNat (by omega)
 have h1 := h.setVote n.toNat { vtW w n with Promised := b } (ha.1.prep ha.2.1 ha.2.2.2) (by show 0 ≤ b; omega) hv.2.2
 have hbv : Valid ⟨1, b, w.Members, t, [], [], []⟩ := by
  unfold Valid
  rw [if_neg (by simp)]
  exact ⟨.inl ⟨rfl, rfl, rfl⟩, ⟨ha.2.1, h.mem, ht, rfl, rfl, (fun p hp => by cases hp), by simpa using most_nil w.Members, by simpa using most_nil w.Members, .inl rfl⟩⟩
 have h2 := h1.setTry n.toNat ⟨1, b, w.Members, t, [], [], []⟩ hbv fun _ => ⟨ho, rfl⟩
 exact (h2.tell ⟨n, 0, 1, 0, 0, b, 0, [], 0, 0⟩ hn ⟨by simp, by simp⟩ ha.2.1 (by simp) (by simp) ⟨rfl, rfl, rfl, rfl⟩).promised n b _ hn
theorem WG.come {w : TWorld} (h : WG w) (m : TMail) (hm : MOk m) : WG (comeW w m) := by
 obtain ⟨hf, hto, hk1, hk2, hb, hp, hval, _⟩ := hm
 have hv := h.vote m.To.toNat (by omega)
 have hadd : ∀ (w2 : TWorld) (k : TMail), WG w2 → MOk k → WG (addMail w2 k) := by
  intro w2 k h2 hk
  refine h2.setMail _ fun x hx => ?_
  rcases List.mem_append.1 hx with hx | hx
  ·exact .inl hx
  ·rw [List.mem_singleton] at hx
   subst hx
   exact .inr hk
 have href : MOk ⟨m.To, m.From, 5, 0, 0, m.Ballot, (vtW w m.To).Promised, [], 0, 0⟩ := ⟨hto, hf, by simp, by simp, hb, hv.2.1, by simp, rfl, rfl, rfl, rfl⟩
 unfold comeW
 split
 ·exact h.promised _ _ _ hto
 split
 ·exact h.taken _ _ _ hto
 split
 ·exact h
 split
 ·split
  ·rename_i hc
   have h1 := h.setVote m.To.toNat { vtW w m.To with Promised := m.Ballot } (hc.1.prep hc.2.1 hc.2.2.2) (by have := hc.2.2.2; have := hv.2.1; show 0 ≤ m.Ballot; exact Int.le_trans hv.2.1 hc.2.2.2) hv.2.2
   exact hadd _ _ h1 ⟨hto, hf, by simp, by simp, hb, hv.2.2, hv.1.value, rfl, rfl, rfl, rfl⟩
  ·exact hadd _ _ h href
 split
 ·rename_i hc
  have hle : 0 ≤ m.Ballot := Int.le_trans hv.2.1 hc.2.2.2
  have hne := hb.ne
  have h1 := h.setVote m.To.toNat ⟨m.Ballot, m.Ballot, m.Value⟩ (VOk.acc hb hval (by omega)) hle hle
  exact hadd _ _ h1 ⟨hto, hf, by simp, by simp, hb, by simp, by simp, rfl, rfl, rfl, rfl⟩
 ·exact hadd _ _ h href
end Go.Proofs
end
section
namespace Go.Proofs
open Go.Tm
set_option linter.unusedSimpArgs false
inductive Moved (w : TWorld) (m : TMove) (x : TWorld) : Prop where
 | crash (hn : 0 ≤ m.Node ∧ m.Node < 6) (hx : x = { w with Tries := w.Tries.set m.Node.toNat ⟨0, 0, [], [], [], [], []⟩ })
 | start (hk : m.Kind = 1) (hn : 0 ≤ m.Node ∧ m.Node < 6) (b : Int) (ha : AskedS (vtW w m.Node) b []) (ht : m.Value.length ≤ 1024) (h0 : 0 ≤ (vtW w m.Node).Promised) (hlt : (vtW w m.Node).Promised < b) (h8 : 8 ≤ b) (ho : ownB b = m.Node.toNat) (hx : x = beginW w m.Node b m.Value)
 | drop (M : List TMail) (hM : ∀ k ∈ M, k ∈ w.Mail) (hx : x = { w with Mail := M })
 | come (M : List TMail) (hM : ∀ k ∈ M, k ∈ w.Mail) (k : TMail) (hk : k ∈ w.Mail) (hx : x = comeW { w with Mail := M } k)
def noWorld : TWorld := ⟨[], [], [], [], []⟩
theorem WOk.shape {w : TWorld} (h : WOk w) : Shape w 1000 := ⟨h.mem.1, h.vts, h.trs, h.mail, h.ch⟩
theorem Moved.good {w x : TWorld} {m : TMove} (hm : Moved w m x) (h : WG w) : WG x := by
 cases hm with
 | crash hn hx => subst hx; exact h.setTry _ _ (by unfold Valid; rw [if_pos rfl]) fun h => absurd rfl h
 | start hk hn b ha ht h0 hlt h8 ho hx => subst hx; exact h.begin_ _ _ _ hn ha ht h8 ho
 | drop M hM hx => subst hx; exact h.setMail M fun k hk => .inl (hM k hk)
 | come M hM k hk hx => subst hx; exact (h.setMail M fun k hk => .inl (hM k hk)).come k (h.mails k hk)
theorem Moved.lives {ms W} {w x : TWorld} {m : TMove} (hm : Moved w m x) (h : Lives ms W w) (hg : WG w) (hW : m.Kind = 1 → W m.Value) : Lives ms W x := by
 obtain ⟨acc, told, h⟩ := h
 cases hm with
 | crash hn hx =>
  subst hx
  refine ⟨acc, told, h.mem, h.vts, by simpa using h.trs, ?_⟩
  rw [px_try w acc told _ _ (by rw [h.trs]; omega)]
  exact h.inv.try_ _ _ fun h => absurd rfl h
 | start hk hn b ha ht h0 hlt h8 ho hx => subst hx; exact h.begin_ _ b _ hn (by omega) ho hlt (hW hk)
 | drop M hM hx => subst hx; exact ⟨acc, told, h.mails M fun k hk => .inl (hM k hk)⟩
 | come M hM k hk hx =>
  subst hx
  have h2 := h.mails M fun k hk => .inl (hM k hk)
  obtain ⟨_, hto, hk1, hk2, _⟩ := hg.mails k hk
  refine h2.come k hto (by omega) (fun e => ?_) (fun e => ?_) (fun e => ?_)
  ·exact h.inv.mailP _ _ _ _ ⟨k, hk, e, rfl, rfl, rfl, rfl⟩
  ·exact h.inv.mailA _ _ ⟨k, hk, e, rfl, rfl⟩
  ·exact h.inv.mailT _ _ ⟨k, hk, e, rfl, rfl⟩
end Go.Proofs
end
section
namespace Go.Proofs
open Go.Tm
set_option linter.unusedSimpArgs false
def newW (ms : List Int) : TWorld := ⟨ms, ((List.replicate 6 (⟨0, 0, []⟩ : TVote)).take 6), ((List.replicate 6 (⟨0, 0, [], [], [], [], []⟩ : TAttempt)).take 6), [], []⟩
theorem new_vote (ms : List Int) (i : Nat) : (newW ms).Votes.getD i default = ⟨0, 0, []⟩ := by
 match i with
 | 0 => rfl
 | 1 => rfl
 | 2 => rfl
 | 3 => rfl
 | 4 => rfl
 | 5 => rfl
 | i + 6 => rfl
theorem new_try (ms : List Int) (i : Nat) : (newW ms).Tries.getD i default = ⟨0, 0, [], [], [], [], []⟩ := by
 match i with
 | 0 => rfl
 | 1 => rfl
 | 2 => rfl
 | 3 => rfl
 | 4 => rfl
 | 5 => rfl
 | i + 6 => rfl
theorem new_good {ms : List Int} (h : QOk ms) : WG (newW ms) where
 mem := h
 vts := rfl
 trs := rfl
 vote i _ := by
  rw [new_vote]
  exact ⟨⟨.inl rfl, rfl⟩, Int.le_refl _, Int.le_refl _⟩
 try_ i _ := by
  rw [new_try]
  exact ⟨by unfold Valid; rw [if_pos rfl], fun h => absurd rfl h⟩
 mails m hm := by cases hm
 chs c hc := by cases hc
theorem new_lives (ms : List Int) (W : List UInt8 → Prop) : Lives ms W (newW ms) := by
 refine ⟨fun _ _ _ => False, fun _ _ => False, rfl, rfl, rfl, ?_⟩
 refine { acc := fun _ _ _ h => h.elim, one := fun _ _ _ h => h.elim, pos := fun _ _ h => h.elim, top := fun _ _ _ h => h.elim, prom := fun i => ?_, last := fun i hi => ?_, own := fun _ _ h => h.elim, safe := fun _ _ h => h.elim, wish := fun _ _ h => h.elim, mailP := ?_, mailA := ?_, mailT := ?_, tries := fun n hn => ?_, ch := ?_ }
 ·show ((newW ms).Votes.getD i default).Ballot ≤ ((newW ms).Votes.getD i default).Promised
  rw [new_vote]
  exact Int.le_refl _
 ·exact absurd (by show ((newW ms).Votes.getD i default).Ballot = 0; rw [new_vote]) hi
 ·rintro _ _ _ _ ⟨m, hm, _⟩
  cases hm
 ·rintro _ _ ⟨m, hm, _⟩
  cases hm
 ·rintro _ _ ⟨m, hm, _⟩
  cases hm
 ·exact absurd (by show ((newW ms).Tries.getD n default).Phase = 0; rw [new_try]) hn
 ·rintro _ ⟨c, hc, _⟩
  cases hc
structure Live (ms : List Int) (W : List UInt8 → Prop) (w : TWorld) : Prop where
 good : WG w
 mail : w.Mail.length ≤ 1000
 ch : w.Chosen.length ≤ 1000
 hist : Lives ms W w
theorem long_eq : ∀ l : List TMove, ∃ b, m_towncrierlaw09_long l = some b := by
 intro l
 rw [m_towncrierlaw09_long]
 suffices h : ∃ z, m_towncrierlaw09_long_loop1 l = some z by
  obtain ⟨z, hz⟩ := h
  rw [hz]
  cases z <;> exact ⟨_, rfl⟩
 induction l with
 | nil => exact ⟨_, m_towncrierlaw09_long_loop1_n⟩
 | cons y l ih =>
  rw [m_towncrierlaw09_long_loop1_c]
  split
  ·exact ⟨_, rfl⟩
  ·exact ih
end Go.Proofs
end
section
namespace Go.Proofs
open Go.Tm
set_option linter.unusedSimpArgs false
def Lives2 (ms : List Int) (W : List UInt8 → Prop) (acc : Nat → Int → List UInt8 → Prop) (told : Int → List UInt8 → Prop) (w : TWorld) : Prop :=
 ∃ acc2 told2, Hist ms W w acc2 told2 ∧ (∀ i b v, acc i b v → acc2 i b v) ∧ (∀ b v, told b v → told2 b v)
theorem Hist.ownVote2 {ms W w acc told} (h : Hist ms W w acc told) (n b : Int) (v : List UInt8) (hn : 0 ≤ n ∧ n < 6) (ht : told b v) : ∃ acc2, Hist ms W (Go.Proofs.ownVote w n b v) acc2 told ∧ ∀ i c u, acc i c u → acc2 i c u := by
 unfold Go.Proofs.ownVote
 split
 case isFalse => exact ⟨acc, h, fun _ _ _ h => h⟩
 rename_i hc
 have hlt : n.toNat < w.Votes.length := by rw [h.vts]; omega
 have i1 := h.inv.accept n.toNat b v hc.2.2.2.2 ht
 have h2 : Hist ms W { w with Votes := w.Votes.set n.toNat ⟨b, b, v⟩ } (fun i c u => acc i c u ∨ (i = n.toNat ∧ c = b ∧ u = v)) told := by
  refine ⟨h.mem, by simpa using h.vts, h.trs, ?_⟩
  rw [px_vote w _ told _ _ hlt]
  exact i1
 exact ⟨_, h2.taken n b n hn ⟨v, .inr ⟨rfl, rfl, rfl⟩⟩, fun _ _ _ h => .inl h⟩
theorem Hist.promised2 {ms W w acc told} (h : Hist ms W w acc told) (n b : Int) (p : TPromise) (hn : 0 ≤ n ∧ n < 6) (hp : PromOK (pxOf w acc told) p.Node.toNat b p.Ballot p.Value) : Lives2 ms W acc told (promisedW w n b p) := by
 unfold promisedW
 split
 case isFalse => exact ⟨acc, told, h, fun _ _ _ h => h, fun _ _ h => h⟩
 rename_i hc
 obtain ⟨hv, h1, hb, hpm, hmay⟩ := hc
 have hlt : n.toNat < w.Tries.length := by rw [h.trs]; omega
 have hph : (trW w n).Phase ≠ 0 := by omega
 have t : TryOK ms W (pxOf w acc told) n.toNat (trW w n) := h.inv.tries n.toNat hph
 have hk := promised_kept (a := trW w n) (p := p) ⟨hv, h1, rfl, hpm, hb ▸ hmay⟩
 obtain ⟨e1, e2, e3, e4⟩ := promisedS_same (trW w n) p
 have hprom : ∀ q ∈ (promisedS (trW w n) p).Promises, PromOK (pxOf w acc told) q.Node.toNat b q.Ballot q.Value := by
  intro q hq
  rcases promisedS_in q hq with rfl | hq
  ·exact hp
  ·rw [hb]; exact t.prom q hq
 split
 ·rename_i h2
  have t2 : TryOK ms W (pxOf w acc told) n.toNat (promisedS (trW w n) p) := by
   refine ⟨e1 ▸ t.own, e1 ▸ t.pos, e1 ▸ t.le, e3 ▸ t.wish, e2.trans t.mem, fun q hq => ?_, fun i hi => ?_, fun _ => e1 ▸ t.ask h1, fun h3 => absurd h2 h3⟩
   ·rw [e1, ← hb]; exact hprom q hq
   ·rw [e1]; exact t.acc i (e4 ▸ hi)
  have i1 := h.inv.try_ n.toNat _ fun _ => t2
  rw [← px_try w acc told _ _ hlt] at i1
  exact ⟨acc, told, ⟨h.mem, h.vts, by simpa using h.trs, i1⟩, fun _ _ _ h => h, fun _ _ h => h⟩
 ·rename_i h2
  have hne : (promisedS (trW w n) p).Phase ≠ 0 := by
   unfold promisedS withP
   split
   ·omega
   ·split
    ·simp
    ·simpa using hph
  have k := hk.kept hne
  have hval : (promisedS (trW w n) p).Value = bestS (promisedS (trW w n) p).Promises (promisedS (trW w n) p).Wish 0 := by
   rcases k.value with h3 | h3
   ·exact absurd h3 h2
   ·exact h3
  have hmost : mostS ms ((promisedS (trW w n) p).Promises.map TPromise.Node) = true := by
   have := k.most
   rw [e2, show (trW w n).Members = ms from t.mem] at this
   rw [this]
   have h3 : (promisedS (trW w n) p).Phase = 2 ∨ (promisedS (trW w n) p).Phase = 1 ∨ (promisedS (trW w n) p).Phase = 0 ∨ (promisedS (trW w n) p).Phase = 3 := by
    unfold Valid at hk
    rw [if_neg hne] at hk
    rcases hk.1 with h | h | h
    ·exact .inr (.inl h.1)
    ·exact .inl h
    ·exact .inr (.inr (.inr h))
   rcases h3 with h3 | h3 | h3 | h3
   ·rw [h3]; rfl
   ·exact absurd h3 h2
   ·exact absurd h3 hne
   ·rw [h3]; rfl
  have hs := h.inv.best b (promisedS (trW w n) p).Promises (promisedS (trW w n) p).Wish hmost hprom (fun q hq => by have := k.may q hq; rw [e1, ← hb] at this; exact this) (e3 ▸ t.wish)
  rw [← hval] at hs
  have i1 := h.inv.tell n.toNat b (promisedS (trW w n) p).Value (promisedS (trW w n) p) (hb ▸ t.ask h1) hs.1 hs.2 rfl (by rw [e1, hb]) h2 (hb ▸ t.own) (hb ▸ t.pos) (hb ▸ t.le) (e3 ▸ t.wish) (e2.trans t.mem) hprom (fun i hi => by rw [hb]; exact t.acc i (e4 ▸ hi))
  have h3 : Hist ms W { w with Tries := w.Tries.set n.toNat (promisedS (trW w n) p) } acc (fun c u => told c u ∨ (c = b ∧ u = (promisedS (trW w n) p).Value)) := by
   refine ⟨h.mem, h.vts, by simpa using h.trs, ?_⟩
   rw [px_try w acc _ _ _ hlt]
   exact i1
  have h4 := h3.tell ⟨n, 0, 3, 0, 0, b, 0, (promisedS (trW w n) p).Value, 0, 0⟩ (by simp) (fun _ => .inr ⟨rfl, rfl⟩) (by simp)
  obtain ⟨acc2, h5, h6⟩ := h4.ownVote2 n b _ hn (.inr ⟨rfl, rfl⟩)
  exact ⟨acc2, _, h5, h6, fun _ _ h => Or.inl h⟩
theorem Hist.begin2 {ms W w acc told} (h : Hist ms W w acc told) (n b : Int) (v : List UInt8) (hn : 0 ≤ n ∧ n < 6) (hb : 0 < b) (ho : ownB b = n.toNat) (hlt : (vtW w n).Promised < b) (hW : W v) : Lives2 ms W acc told (beginW w n b v) := by
 unfold beginW
 have l1 : n.toNat < w.Votes.length := by rw [h.vts]; omega
 have l2 : n.toNat < w.Tries.length := by rw [h.trs]; omega
 have hnew : ∀ u, ¬ told b u := by
  intro u hu
  have h1 := h.inv.own b u hu
  rw [ho] at h1
  have h2 : (vtW w n).Promised = ((pxOf w acc told).vt n.toNat).Promised := rfl
  omega
 have i1 := h.inv.prepare n.toNat b (Int.le_of_lt hlt)
 rw [← px_vote w acc told _ _ l1] at i1
 have hvt : ((pxOf { w with Votes := w.Votes.set n.toNat { vtW w n with Promised := b } } acc told).vt n.toNat).Promised = b := by
  rw [px_vote w acc told _ _ l1]
  simp [upd]
 have i2 := i1.try_ n.toNat ⟨1, b, w.Members, v, [], [], []⟩ fun _ => ⟨ho, hb, Int.le_of_eq hvt.symm, hW, h.mem, fun p hp => absurd hp (by simp), fun i hi => absurd hi (by simp), fun _ => hnew, fun h => absurd rfl h⟩
 have h3 : Hist ms W { w with Votes := w.Votes.set n.toNat { vtW w n with Promised := b }, Tries := w.Tries.set n.toNat ⟨1, b, w.Members, v, [], [], []⟩ } acc told := by
  refine ⟨h.mem, by simpa using h.vts, by simpa using h.trs, ?_⟩
  have := px_try { w with Votes := w.Votes.set n.toNat { vtW w n with Promised := b } } acc told n.toNat ⟨1, b, w.Members, v, [], [], []⟩ l2
  rw [this]
  exact i2
 have h4 := h3.tell ⟨n, 0, 1, 0, 0, b, 0, [], 0, 0⟩ (by simp) (fun h => absurd h (by simp)) (by simp)
 refine h4.promised2 n b _ hn ?_
 have e : ∀ i, (pxOf (tellS { w with Votes := w.Votes.set n.toNat { vtW w n with Promised := b }, Tries := w.Tries.set n.toNat ⟨1, b, w.Members, v, [], [], []⟩ } ⟨n, 0, 1, 0, 0, b, 0, [], 0, 0⟩) acc told).vt i = (pxOf { w with Votes := w.Votes.set n.toNat { vtW w n with Promised := b } } acc told).vt i := fun _ => rfl
 refine ⟨?_, fun c u hc _ => ?_, fun hp => ?_⟩
 ·rw [e]; exact Int.le_of_eq hvt.symm
 ·exact h.inv.top _ _ _ hc
 ·exact h.inv.last n.toNat hp
theorem Hist.come2 {ms W w acc told} (h : Hist ms W w acc told) (m : TMail) (hto : 0 ≤ m.To ∧ m.To < 6) (hk : m.Kind = 1 ∨ m.Kind = 2 ∨ m.Kind = 3 ∨ m.Kind = 4 ∨ m.Kind = 5) (hP : m.Kind = 2 → PromOK (pxOf w acc told) m.From.toNat m.Ballot m.Prior m.Value) (hA : m.Kind = 3 → told m.Ballot m.Value) (hT : m.Kind = 4 → ∃ v, acc m.From.toNat m.Ballot v) : Lives2 ms W acc told (comeW w m) := by
 unfold comeW
 have l1 : m.To.toNat < w.Votes.length := by rw [h.vts]; omega
 have hno : ∀ (w2 : TWorld) (a2 t2) (k : TMail), Hist ms W w2 a2 t2 → k.Kind = 5 → Hist ms W (addMail w2 k) a2 t2 := by
  intro w2 a2 t2 k h2 h5
  refine h2.mails _ fun x hx => ?_
  rcases List.mem_append.1 hx with hx | hx
  ·exact .inl hx
  ·rw [List.mem_singleton] at hx
   subst hx
   exact .inr ⟨fun h => absurd h (by omega), fun h => absurd h (by omega), fun h => absurd h (by omega)⟩
 split
 ·rename_i h2
  exact h.promised2 _ _ _ hto (hP h2)
 split
 ·rename_i h4
  exact ⟨acc, told, h.taken _ _ _ hto (hT h4), fun _ _ _ h => h, fun _ _ h => h⟩
 split
 ·exact ⟨acc, told, h, fun _ _ _ h => h, fun _ _ h => h⟩
 split
 ·split
  ·rename_i hc
   have i1 := h.inv.prepare m.To.toNat m.Ballot hc.2.2.2
   rw [← px_vote w acc told _ _ l1] at i1
   have hvt : ((pxOf { w with Votes := w.Votes.set m.To.toNat { vtW w m.To with Promised := m.Ballot } } acc told).vt m.To.toNat).Promised = m.Ballot := by
    rw [px_vote w acc told _ _ l1]
    simp [upd]
   have h3 : Hist ms W { w with Votes := w.Votes.set m.To.toNat { vtW w m.To with Promised := m.Ballot } } acc told := ⟨h.mem, by simpa using h.vts, h.trs, i1⟩
   refine ⟨acc, told, h3.mails _ fun x hx => ?_, fun _ _ _ h => h, fun _ _ h => h⟩
   rcases List.mem_append.1 hx with hx | hx
   ·exact .inl hx
   ·rw [List.mem_singleton] at hx
    subst hx
    refine .inr ⟨fun _ => ⟨Int.le_of_eq hvt.symm, fun c u hc _ => h.inv.top _ _ _ hc, fun hp => h.inv.last m.To.toNat hp⟩, fun h => absurd h (by simp), fun h => absurd h (by simp)⟩
  ·exact ⟨acc, told, hno _ _ _ _ h rfl, fun _ _ _ h => h, fun _ _ h => h⟩
 split
 ·rename_i h2 h4 h5 h1 hc
  have h3 : m.Kind = 3 := by omega
  have i1 := h.inv.accept m.To.toNat m.Ballot m.Value hc.2.2.2 (hA h3)
  have h6 : Hist ms W { w with Votes := w.Votes.set m.To.toNat ⟨m.Ballot, m.Ballot, m.Value⟩ } (fun i c u => acc i c u ∨ (i = m.To.toNat ∧ c = m.Ballot ∧ u = m.Value)) told := by
   refine ⟨h.mem, by simpa using h.vts, h.trs, ?_⟩
   rw [px_vote w _ told _ _ l1]
   exact i1
  refine ⟨_, told, h6.mails _ fun x hx => ?_, fun _ _ _ h => .inl h, fun _ _ h => h⟩
  rcases List.mem_append.1 hx with hx | hx
  ·exact .inl hx
  ·rw [List.mem_singleton] at hx
   subst hx
   exact .inr ⟨fun h => absurd h (by simp), fun h => absurd h (by simp), fun _ => ⟨m.Value, .inr ⟨rfl, rfl, rfl⟩⟩⟩
 ·exact ⟨acc, told, hno _ _ _ _ h rfl, fun _ _ _ h => h, fun _ _ h => h⟩
end Go.Proofs
end
section
namespace Go.Proofs
open Go.Tm
set_option linter.unusedSimpArgs false
structure Cold (Q : List Int) (b : Int) (w : TWorld) : Prop where
 more : ∀ i ∈ Q, (0 ≤ i ∧ i < 6) ∧ b < (vtW w i).Promised
 mail : ∀ m ∈ w.Mail, m.Kind = 2 → m.Ballot = b → m.From ∉ Q
 try_ : ∀ i : Nat, i < 6 → (w.Tries.getD i default).Phase ≠ 0 → (w.Tries.getD i default).Ballot = b → (w.Tries.getD i default).Phase = 1 ∧ ∀ p ∈ (w.Tries.getD i default).Promises, p.Node ∉ Q
theorem cold_promised {ms Q : List Int} {a : TAttempt} {p : TPromise} (hQ : mostS ms Q = true) (hm : a.Members = ms) (h1 : a.Phase = 1) (hp : ∀ q ∈ a.Promises, q.Node ∉ Q) (hn : p.Node ∉ Q) : (promisedS a p).Phase = 1 ∧ ∀ q ∈ (promisedS a p).Promises, q.Node ∉ Q := by
 have hall : ∀ q ∈ (promisedS a p).Promises, q.Node ∉ Q := by
  intro q hq
  rcases promisedS_in q hq with rfl | hq
  ·exact hn
  ·exact hp q hq
 refine ⟨?_, hall⟩
 unfold promisedS at hall ⊢
 split
 ·exact h1
 ·rename_i hin
  unfold withP at hall ⊢
  rw [if_neg hin] at hall
  split
  ·rename_i hmost
   exfalso
   rw [if_pos hmost] at hall
   rw [hm] at hmost
   obtain ⟨i, hi, hiQ⟩ := most_meet hmost hQ
   obtain ⟨q, hq, rfl⟩ := List.mem_map.1 hi
   exact hall q hq hiQ
  ·exact h1
theorem Cold.setTry {Q : List Int} {b : Int} {w : TWorld} (h : Cold Q b w) (n : Nat) (a : TAttempt) (hl : w.Tries.length = 6) (ha : a.Phase ≠ 0 → a.Ballot = b → a.Phase = 1 ∧ ∀ p ∈ a.Promises, p.Node ∉ Q) : Cold Q b { w with Tries := w.Tries.set n a } := by
 refine ⟨h.more, h.mail, fun i hi => ?_⟩
 by_cases e : i = n
 ·subst e
  show ((w.Tries.set i a).getD i default).Phase ≠ 0 → ((w.Tries.set i a).getD i default).Ballot = b → ((w.Tries.set i a).getD i default).Phase = 1 ∧ ∀ p ∈ ((w.Tries.set i a).getD i default).Promises, p.Node ∉ Q
  rw [getD_set_same _ _ _ _ (by omega)]
  exact ha
 ·show ((w.Tries.set n a).getD i default).Phase ≠ 0 → ((w.Tries.set n a).getD i default).Ballot = b → ((w.Tries.set n a).getD i default).Phase = 1 ∧ ∀ p ∈ ((w.Tries.set n a).getD i default).Promises, p.Node ∉ Q
  rw [getD_set_ne _ _ _ _ _ e]
  exact h.try_ i hi
theorem Cold.setVote {Q : List Int} {b : Int} {w : TWorld} (h : Cold Q b w) (n : Nat) (v : TVote) (hl : w.Votes.length = 6) (hv : (w.Votes.getD n default).Promised ≤ v.Promised) : Cold Q b { w with Votes := w.Votes.set n v } := by
 refine ⟨fun i hi => ⟨(h.more i hi).1, ?_⟩, h.mail, h.try_⟩
 obtain ⟨h1, h2⟩ := h.more i hi
 show b < ((w.Votes.set n v).getD i.toNat default).Promised
 by_cases e : i.toNat = n
 ·rw [e, getD_set_same _ _ _ _ (by omega)]
  rw [← e] at hv
  have h2 : b < (w.Votes.getD i.toNat default).Promised := h2
  omega
 ·rw [getD_set_ne _ _ _ _ _ e]
  exact h2
theorem Cold.setMail {Q : List Int} {b : Int} {w : TWorld} (h : Cold Q b w) (M : List TMail) (hM : ∀ m ∈ M, m ∈ w.Mail ∨ (m.Kind = 2 → m.Ballot = b → m.From ∉ Q)) : Cold Q b { w with Mail := M } :=
 ⟨h.more, fun m hm => (hM m hm).elim (h.mail m) id, h.try_⟩
theorem Cold.taken {Q : List Int} {b : Int} {w : TWorld} (h : Cold Q b w) (n c q : Int) (hn : 0 ≤ n ∧ n < 6) (hl : w.Tries.length = 6) : Cold Q b (takenW w n c q) := by
 unfold takenW
 split
 case isFalse => exact h
 rename_i hc
 have h1 := h.setTry n.toNat (acceptedS (trW w n) q) hl fun _ hb => by
  have h2 := (h.try_ n.toNat (by omega) (by have := hc.2.1; show (trW w n).Phase ≠ 0; omega) hb).1
  have h3 : (trW w n).Phase = 1 := h2
  have := hc.2.1
  omega
 exact ⟨h1.more, h1.mail, h1.try_⟩
theorem Cold.ownVote {Q : List Int} {b : Int} {w : TWorld} (h : Cold Q b w) (n c : Int) (v : List UInt8) (hn : 0 ≤ n ∧ n < 6) (hv : w.Votes.length = 6) (hl : w.Tries.length = 6) : Cold Q b (Go.Proofs.ownVote w n c v) := by
 unfold Go.Proofs.ownVote
 split
 ·rename_i hc
  exact (h.setVote n.toNat ⟨c, c, v⟩ hv hc.2.2.2.2).taken n c n hn hl
 ·exact h
theorem Cold.promised {ms Q : List Int} {b : Int} {w : TWorld} (hQ : mostS ms Q = true) (h : Cold Q b w) (hg : WG w) (hm : w.Members = ms) (n c : Int) (p : TPromise) (hn : 0 ≤ n ∧ n < 6) (hp : c = b → p.Node ∉ Q) : Cold Q b (promisedW w n c p) := by
 unfold promisedW
 split
 case isFalse => exact h
 rename_i hc
 obtain ⟨e1, _, _, _⟩ := promisedS_same (trW w n) p
 have hph : (w.Tries.getD n.toNat default).Phase ≠ 0 := by have := hc.2.1; show (trW w n).Phase ≠ 0; omega
 have hmm : (trW w n).Members = ms := ((hg.try_ n.toNat (by omega)).2 hph).2.trans hm
 have h1 := h.setTry n.toNat (promisedS (trW w n) p) hg.trs fun _ hb => by
  have hb2 : (trW w n).Ballot = b := e1.symm.trans hb
  have h2 := h.try_ n.toNat (by omega) hph hb2
  exact cold_promised hQ hmm h2.1 h2.2 (hp (hc.2.2.1.trans hb2))
 split
 ·exact h1
 ·have h2 : Cold Q b (tellS { w with Tries := w.Tries.set n.toNat (promisedS (trW w n) p) } ⟨n, 0, 3, 0, 0, c, 0, (promisedS (trW w n) p).Value, 0, 0⟩) := by
   refine h1.setMail _ fun k hk => ?_
   rcases List.mem_append.1 hk with hk | hk
   ·exact .inl hk
   ·obtain ⟨to, _, rfl⟩ := List.mem_map.1 hk
    exact .inr fun h => absurd h (by simp)
  exact h2.ownVote n c _ hn hg.vts (by show (w.Tries.set _ _).length = 6; simpa using hg.trs)
theorem Cold.come {ms Q : List Int} {b : Int} {w : TWorld} (hQ : mostS ms Q = true) (h : Cold Q b w) (hg : WG w) (hm : w.Members = ms) (m : TMail) (hok : MOk m) (hp : m.Kind = 2 → m.Ballot = b → m.From ∉ Q) : Cold Q b (comeW w m) := by
 obtain ⟨_, hto, _⟩ := hok
 have hadd : ∀ (w2 : TWorld) (k : TMail), Cold Q b w2 → (k.Kind = 2 → k.Ballot = b → k.From ∉ Q) → Cold Q b (addMail w2 k) := by
  intro w2 k h2 hk
  refine h2.setMail _ fun x hx => ?_
  rcases List.mem_append.1 hx with hx | hx
  ·exact .inl hx
  ·rw [List.mem_singleton] at hx
   subst hx
   exact .inr hk
 unfold comeW
 split
 ·rename_i h2
  exact h.promised hQ hg hm _ _ _ hto (hp h2)
 split
 ·exact h.taken _ _ _ hto hg.trs
 split
 ·exact h
 split
 ·split
  ·rename_i hc
   refine hadd _ _ (h.setVote m.To.toNat { vtW w m.To with Promised := m.Ballot } hg.vts hc.2.2.2) fun _ hb hin => ?_
   have h3 : b < (vtW w m.To).Promised := (h.more m.To hin).2
   have h4 : m.Ballot = b := hb
   have h5 := hc.2.2.2
   omega
  ·exact hadd _ _ h fun h => absurd h (by simp)
 split
 ·rename_i hc
  exact hadd _ _ (h.setVote m.To.toNat ⟨m.Ballot, m.Ballot, m.Value⟩ hg.vts hc.2.2.2) fun h => absurd h (by simp)
 ·exact hadd _ _ h fun h => absurd h (by simp)
end Go.Proofs
end
section
namespace Go.Proofs
open Go.Tm
set_option linter.unusedSimpArgs false
structure Turn (n : Nat) (w x : TWorld) : Prop where
 same : ∀ i, i ≠ n → x.Votes.getD i default = w.Votes.getD i default
 prom : (w.Votes.getD n default).Promised ≤ (x.Votes.getD n default).Promised
 bal : (w.Votes.getD n default).Ballot ≤ (x.Votes.getD n default).Ballot
 ch : w.Chosen.length ≤ x.Chosen.length
theorem Turn.rfl' {n : Nat} {w x : TWorld} (h : x.Votes = w.Votes) (hc : w.Chosen.length ≤ x.Chosen.length) : Turn n w x :=
 ⟨fun _ _ => by rw [h], by rw [h]; exact Int.le_refl _, by rw [h]; exact Int.le_refl _, hc⟩
theorem Turn.trans {n : Nat} {w x y : TWorld} (h : Turn n w x) (k : Turn n x y) : Turn n w y :=
 ⟨fun i hi => (k.same i hi).trans (h.same i hi), Int.le_trans h.prom k.prom, Int.le_trans h.bal k.bal, Nat.le_trans h.ch k.ch⟩
theorem turn_set (w : TWorld) (n : Nat) (v : TVote) (hn : n < w.Votes.length) (h1 : (w.Votes.getD n default).Promised ≤ v.Promised) (h2 : (w.Votes.getD n default).Ballot ≤ v.Ballot) : Turn n w { w with Votes := w.Votes.set n v } := by
 refine ⟨fun i hi => getD_set_ne _ _ _ _ _ hi, ?_, ?_, Nat.le_refl _⟩
 ·show _ ≤ ((w.Votes.set n v).getD n default).Promised
  rw [getD_set_same _ _ _ _ hn]
  exact h1
 ·show _ ≤ ((w.Votes.set n v).getD n default).Ballot
  rw [getD_set_same _ _ _ _ hn]
  exact h2
theorem turn_taken (w : TWorld) (k : Nat) (n b q : Int) : Turn k w (takenW w n b q) := by
 unfold takenW
 split
 ·refine Turn.rfl' rfl ?_
  show w.Chosen.length ≤ (if _ then _ else _ : List TChoice).length
  split
  ·simp
  ·exact Nat.le_refl _
 ·exact Turn.rfl' rfl (Nat.le_refl _)
theorem VOk.le {v : TVote} (h : VOk v) (h0 : 0 ≤ v.Promised) : v.Ballot ≤ v.Promised := by
 have := h.2
 split at this
 ·omega
 ·exact this.2.1
theorem turn_own {w : TWorld} (h : WG w) (n b : Int) (v : List UInt8) (hn : 0 ≤ n ∧ n < 6) : Turn n.toNat w (ownVote w n b v) := by
 unfold ownVote
 split
 ·rename_i hc
  have hle := hc.2.2.2.2
  have hv := h.vote n.toNat (by omega)
  have hb := hv.1.le hv.2.1
  exact (turn_set w n.toNat ⟨b, b, v⟩ (by rw [h.vts]; omega) hle (Int.le_trans hb hle)).trans (turn_taken _ _ _ _ _)
 ·exact Turn.rfl' rfl (Nat.le_refl _)
theorem turn_promised {w : TWorld} (h : WG w) (n b : Int) (p : TPromise) (hn : 0 ≤ n ∧ n < 6) : Turn n.toNat w (promisedW w n b p) := by
 unfold promisedW
 split
 case isFalse => exact Turn.rfl' rfl (Nat.le_refl _)
 rename_i hc
 have hk := promised_kept (a := trW w n) (p := p) ⟨hc.1, hc.2.1, rfl, hc.2.2.2.1, hc.2.2.1 ▸ hc.2.2.2.2⟩
 obtain ⟨e1, e2, _, _⟩ := promisedS_same (trW w n) p
 have ht := (h.try_ n.toNat (by omega)).2 (by have := hc.2.1; show (trW w n).Phase ≠ 0; omega)
 have h2 := h.setTry n.toNat (promisedS (trW w n) p) hk fun _ => ⟨e1 ▸ ht.1, e2.trans ht.2⟩
 have t1 : Turn n.toNat w { w with Tries := w.Tries.set n.toNat (promisedS (trW w n) p) } := Turn.rfl' rfl (Nat.le_refl _)
 split
 ·exact t1
 ·have hkb : BOk b := hc.2.2.1 ▸ (hc.1.kept (by have := hc.2.1; omega)).ballot
  have h3 := h2.tell ⟨n, 0, 3, 0, 0, b, 0, (promisedS (trW w n) p).Value, 0, 0⟩ hn ⟨by simp, by simp⟩ hkb (by simp) hk.value.1 ⟨rfl, rfl, rfl, rfl⟩
  refine t1.trans ?_
  refine Turn.trans (x := tellS { w with Tries := w.Tries.set n.toNat (promisedS (trW w n) p) } ⟨n, 0, 3, 0, 0, b, 0, (promisedS (trW w n) p).Value, 0, 0⟩) ?_ ?_
  ·exact Turn.rfl' rfl (Nat.le_refl _)
  ·exact turn_own h3 n b _ hn
theorem turn_begin {w : TWorld} (h : WG w) (n b : Int) (t : List UInt8) (hn : 0 ≤ n ∧ n < 6) (ha : AskedS (vtW w n) b []) (ht : t.length ≤ 1024) (hb : 8 ≤ b) (ho : ownB b = n.toNat) : Turn n.toNat w (beginW w n b t) := by
 unfold beginW
 have hv := h.vote n.toNat (by omega)
 have h1 := h.setVote n.toNat { vtW w n with Promised := b } (ha.1.prep ha.2.1 ha.2.2.2) (by show 0 ≤ b; omega) hv.2.2
 have hbv : Valid ⟨1, b, w.Members, t, [], [], []⟩ := by
  unfold Valid
  rw [if_neg (by simp)]
  exact ⟨.inl ⟨rfl, rfl, rfl⟩, ⟨ha.2.1, h.mem, ht, rfl, rfl, (fun p hp => by cases hp), by simpa using most_nil w.Members, by simpa using most_nil w.Members, .inl rfl⟩⟩
 have h2 := h1.setTry n.toNat ⟨1, b, w.Members, t, [], [], []⟩ hbv fun _ => ⟨ho, rfl⟩
 have h3 := h2.tell ⟨n, 0, 1, 0, 0, b, 0, [], 0, 0⟩ hn ⟨by simp, by simp⟩ ha.2.1 (by simp) (by simp) ⟨rfl, rfl, rfl, rfl⟩
 have t1 := turn_set w n.toNat { vtW w n with Promised := b } (by rw [h.vts]; omega) ha.2.2.2 (Int.le_refl _)
 refine t1.trans ?_
 refine Turn.trans (x := tellS { w with Votes := w.Votes.set n.toNat { vtW w n with Promised := b }, Tries := w.Tries.set n.toNat ⟨1, b, w.Members, t, [], [], []⟩ } ⟨n, 0, 1, 0, 0, b, 0, [], 0, 0⟩) ?_ ?_
 ·exact Turn.rfl' rfl (Nat.le_refl _)
 ·exact turn_promised h3 n b _ hn
theorem turn_come {w : TWorld} (h : WG w) (m : TMail) (hm : MOk m) : Turn m.To.toNat w (comeW w m) := by
 obtain ⟨_, hto, _⟩ := hm
 have hl : m.To.toNat < w.Votes.length := by rw [h.vts]; omega
 have hv := h.vote m.To.toNat (by omega)
 unfold comeW
 split
 ·exact turn_promised h _ _ _ hto
 split
 ·exact turn_taken _ _ _ _ _
 split
 ·exact Turn.rfl' rfl (Nat.le_refl _)
 split
 ·split
  ·rename_i hc
   exact (turn_set w m.To.toNat { vtW w m.To with Promised := m.Ballot } hl hc.2.2.2 (Int.le_refl _)).trans (Turn.rfl' rfl (Nat.le_refl _))
  ·exact Turn.rfl' rfl (Nat.le_refl _)
 split
 ·rename_i hc
  exact (turn_set w m.To.toNat ⟨m.Ballot, m.Ballot, m.Value⟩ hl hc.2.2.2 (Int.le_trans (hv.1.le hv.2.1) hc.2.2.2)).trans (Turn.rfl' rfl (Nat.le_refl _))
 ·exact Turn.rfl' rfl (Nat.le_refl _)
end Go.Proofs
end
section
namespace Go.Proofs
open Go.Tm
set_option linter.unusedSimpArgs false
end Go.Proofs
end
section
namespace Go.Proofs
open Go.Tm
set_option linter.unusedSimpArgs false
theorem taken_mail (w : TWorld) (n b q : Int) : (takenW w n b q).Mail = w.Mail := by
 unfold takenW
 split <;> rfl
theorem own_mail (w : TWorld) (n b : Int) (v : List UInt8) : (ownVote w n b v).Mail = w.Mail := by
 unfold ownVote
 split
 ·rw [taken_mail]
 ·rfl
theorem tell_mail {w : TWorld} {m k : TMail} (h : k ∈ (tellS w m).Mail) : k ∈ w.Mail ∨ (k.Kind = m.Kind ∧ k.Ballot = m.Ballot) := by
 rcases List.mem_append.1 h with h | h
 ·exact .inl h
 ·obtain ⟨to, _, rfl⟩ := List.mem_map.1 h
  exact .inr ⟨rfl, rfl⟩
theorem promised_mail {w : TWorld} {n b : Int} {p : TPromise} {k : TMail} (h : k ∈ (promisedW w n b p).Mail) : k ∈ w.Mail ∨ k.Kind = 3 := by
 unfold promisedW at h
 split at h
 ·split at h
  ·exact .inl h
  ·rw [own_mail] at h
   rcases tell_mail h with h | h
   ·exact .inl h
   ·exact .inr h.1
 ·exact .inl h
theorem begin_mail {w : TWorld} {n b : Int} {t : List UInt8} {k : TMail} (h : k ∈ (beginW w n b t).Mail) : k ∈ w.Mail ∨ k.Kind = 3 ∨ (k.Kind = 1 ∧ k.Ballot = b) := by
 unfold beginW at h
 rcases promised_mail h with h | h
 ·rcases tell_mail h with h | h
  ·exact .inl h
  ·exact .inr (.inr h)
 ·exact .inr (.inl h)
theorem come_mail {w : TWorld} {m k : TMail} (h : k ∈ (comeW w m).Mail) : k ∈ w.Mail ∨ k.Kind = 3 ∨ k.Kind = 4 ∨ k.Kind = 5 ∨ (k.Kind = 2 ∧ k.Ballot = m.Ballot ∧ m.Kind = 1) := by
 have hadd : ∀ (w2 : TWorld) (q : TMail), w2.Mail = w.Mail → k ∈ (addMail w2 q).Mail → k ∈ w.Mail ∨ k = q := by
  intro w2 q h2 hk
  rcases List.mem_append.1 hk with hk | hk
  ·exact .inl (h2 ▸ hk)
  ·exact .inr (List.mem_singleton.1 hk)
 unfold comeW at h
 split at h
 ·rcases promised_mail h with h | h
  ·exact .inl h
  ·exact .inr (.inl h)
 split at h
 ·rw [taken_mail] at h; exact .inl h
 split at h
 ·exact .inl h
 split at h
 ·rename_i h1
  split at h
  ·rcases hadd _ _ (by rfl) h with h | rfl
   ·exact .inl h
   ·exact .inr (.inr (.inr (.inr ⟨rfl, rfl, h1⟩)))
  ·rcases hadd _ _ (by rfl) h with h | rfl
   ·exact .inl h
   ·exact .inr (.inr (.inr (.inl rfl)))
 split at h
 ·rcases hadd _ _ (by rfl) h with h | rfl
  ·exact .inl h
  ·exact .inr (.inr (.inl rfl))
 ·rcases hadd _ _ (by rfl) h with h | rfl
  ·exact .inl h
  ·exact .inr (.inr (.inr (.inl rfl)))
end Go.Proofs
end
section
namespace Go.Proofs
open Go.Tm
set_option linter.unusedSimpArgs false
theorem Turn.up {n : Nat} {w x : TWorld} (h : Turn n w x) (i : Nat) : (w.Votes.getD i default).Promised ≤ (x.Votes.getD i default).Promised := by
 by_cases e : i = n
 ·subst e; exact h.prom
 ·rw [h.same i e]; exact Int.le_refl _
def preW (w : TWorld) (n b : Int) (t : List UInt8) : TWorld := tellS { w with Votes := w.Votes.set n.toNat { vtW w n with Promised := b }, Tries := w.Tries.set n.toNat ⟨1, b, w.Members, t, [], [], []⟩ } ⟨n, 0, 1, 0, 0, b, 0, [], 0, 0⟩
theorem begin_pre (w : TWorld) (n b : Int) (t : List UInt8) : beginW w n b t = promisedW (preW w n b t) n b ⟨n, (vtW w n).Ballot, (vtW w n).Value⟩ := rfl
theorem WG.pre {w : TWorld} (h : WG w) (n b : Int) (t : List UInt8) (hn : 0 ≤ n ∧ n < 6) (ha : AskedS (vtW w n) b []) (ht : t.length ≤ 1024) (hb : 8 ≤ b) (ho : ownB b = n.toNat) : WG (preW w n b t) := by
 have hv := h.vote n.toNat (by omega)
 have h1 := h.setVote n.toNat { vtW w n with Promised := b } (ha.1.prep ha.2.1 ha.2.2.2) (by show 0 ≤ b; omega) hv.2.2
 have hbv : Valid ⟨1, b, w.Members, t, [], [], []⟩ := by
  unfold Valid
  rw [if_neg (by simp)]
  exact ⟨.inl ⟨rfl, rfl, rfl⟩, ⟨ha.2.1, h.mem, ht, rfl, rfl, (fun p hp => by cases hp), by simpa using most_nil w.Members, by simpa using most_nil w.Members, .inl rfl⟩⟩
 have h2 := h1.setTry n.toNat ⟨1, b, w.Members, t, [], [], []⟩ hbv fun _ => ⟨ho, rfl⟩
 exact h2.tell ⟨n, 0, 1, 0, 0, b, 0, [], 0, 0⟩ hn ⟨by simp, by simp⟩ ha.2.1 (by simp) (by simp) ⟨rfl, rfl, rfl, rfl⟩
theorem pre_vote {w : TWorld} (h : WG w) (n b : Int) (t : List UInt8) (hn : 0 ≤ n ∧ n < 6) : ((preW w n b t).Votes.getD n.toNat default).Promised = b := by
 show ((w.Votes.set n.toNat { vtW w n with Promised := b }).getD n.toNat default).Promised = b
 rw [getD_set_same _ _ _ _ (by rw [h.vts]; omega)]
theorem pre_try {w : TWorld} (h : WG w) (n b : Int) (t : List UInt8) (hn : 0 ≤ n ∧ n < 6) : trW (preW w n b t) n = ⟨1, b, w.Members, t, [], [], []⟩ := by
 show (w.Tries.set n.toNat ⟨1, b, w.Members, t, [], [], []⟩).getD n.toNat default = _
 rw [getD_set_same _ _ _ _ (by rw [h.trs]; omega)]
def BG (w : TWorld) : Prop := ∀ m ∈ w.Mail, (m.Kind = 1 ∨ m.Kind = 2) → m.Ballot ≤ (w.Votes.getD (ownB m.Ballot) default).Promised
theorem Moved.bg {w x : TWorld} {m : TMove} (hm : Moved w m x) (hg : WG w) (h : BG w) : BG x := by
 cases hm with
 | crash hn hx => subst hx; exact h
 | drop M hM hx => subst hx; exact fun k hk => h k (hM k hk)
 | start hk hn b ha ht h0 hlt h8 ho hx =>
  subst hx
  have t := turn_begin hg _ _ m.Value hn ha ht h8 ho
  intro k hk hk12
  rcases begin_mail hk with h1 | h1 | ⟨h1, h2⟩
  ·exact Int.le_trans (h k h1 hk12) (t.up _)
  ·omega
  ·rw [h2, ho]
   have t2 := turn_promised (hg.pre m.Node b m.Value hn ha ht h8 ho) m.Node b ⟨m.Node, (vtW w m.Node).Ballot, (vtW w m.Node).Value⟩ hn
   rw [begin_pre]
   have := t2.prom
   rwa [pre_vote hg _ _ _ hn] at this
 | come M hM k hk hx =>
  subst hx
  have hg2 : WG { w with Mail := M } := hg.setMail M fun k hk => .inl (hM k hk)
  have t := turn_come hg2 k (hg.mails k hk)
  intro q hq hq12
  rcases come_mail hq with h1 | h1 | h1 | h1 | ⟨h1, h2, h3⟩
  ·exact Int.le_trans (h q (hM q h1) hq12) (t.up _)
  ·omega
  ·omega
  ·omega
  ·rw [h2]
   exact Int.le_trans (h k hk (.inl h3)) (t.up _)
theorem taken_ch (w : TWorld) (n b q : Int) : (takenW w n b q).Chosen.length ≤ w.Chosen.length + 1 := by
 unfold takenW
 split
 ·show (if _ then _ else _ : List TChoice).length ≤ _
  split
  ·simp
  ·omega
 ·omega
theorem own_ch (w : TWorld) (n b : Int) (v : List UInt8) : (ownVote w n b v).Chosen.length ≤ w.Chosen.length + 1 := by
 unfold ownVote
 split
 ·exact taken_ch _ _ _ _
 ·omega
theorem promised_ch (w : TWorld) (n b : Int) (p : TPromise) : (promisedW w n b p).Chosen.length ≤ w.Chosen.length + 1 := by
 unfold promisedW
 split
 ·split
  ·show w.Chosen.length ≤ _; omega
  ·exact own_ch _ _ _ _
 ·omega
theorem promised_len (w : TWorld) (n b : Int) (p : TPromise) : (promisedW w n b p).Mail.length ≤ w.Mail.length + (w.Members.filter fun to => decide (to ≠ n)).length := by
 unfold promisedW
 split
 ·split
  ·show w.Mail.length ≤ _; omega
  ·rw [own_mail]
   show (w.Mail ++ List.map _ (w.Members.filter fun to => decide (to ≠ n))).length ≤ _
   simp
 ·omega
theorem pre_len (w : TWorld) (n b : Int) (t : List UInt8) : (preW w n b t).Mail.length = w.Mail.length + (w.Members.filter fun to => decide (to ≠ n)).length := by
 show (w.Mail ++ List.map _ (w.Members.filter fun to => decide (to ≠ n))).length = _
 simp
theorem count_rises {n : Int} : ∀ (l : List Int) (k : Int), risesP k l = true → (l.filter (hasI [n])).length ≤ 1
 | [], _, _ => by simp
 | y :: l, k, h => by
  have h2 : risesP y l = true := by
   unfold risesP at h
   simp only [Bool.and_eq_true] at h
   exact h.2
  have ih := count_rises (n := n) l y h2
  by_cases e : y = n
  ·subst e
   have : l.filter (hasI [y]) = [] := by
    refine List.filter_eq_nil_iff.2 fun x hx => ?_
    have := (rises_lt l y h2 x hx).1
    simp [hasI]
    omega
   simp only [List.filter_cons]
   rw [this]
   split <;> simp
  ·have hf : hasI [n] y = false := by simp [hasI]; omega
   simp only [List.filter_cons, hf]
   simpa using ih
theorem begin_len {w : TWorld} (h : WG w) (n b : Int) (t : List UInt8) (hn : 0 ≤ n ∧ n < 6) : (beginW w n b t).Mail.length ≤ w.Mail.length + 6 := by
 rw [begin_pre]
 have hM : (preW w n b t).Members = w.Members := rfl
 have h6 := h.mem.1
 have hf := List.length_filter_le (fun to => decide (to ≠ n)) w.Members
 have hp := pre_len w n b t
 have ht := pre_try h n b t hn
 unfold promisedW
 split
 case isFalse => omega
 rename_i hc
 rw [ht] at hc ⊢
 split
 ·show (preW w n b t).Mail.length ≤ _; omega
 ·rename_i h1
  rw [own_mail]
  show ((preW w n b t).Mail ++ List.map _ (w.Members.filter fun to => decide (to ≠ n))).length ≤ _
  have h2 : mostS w.Members [n] = true := by
   unfold promisedS at h1
   rw [if_neg (by simp)] at h1
   unfold withP at h1
   split at h1
   ·rename_i h3; simpa [insN, insK] using h3
   ·exact absurd rfl h1
  unfold mostS at h2
  have h2 := of_decide_eq_true h2
  have h3 := count_rises (n := n) w.Members (-1) h.mem.2.1
  simp only [List.length_append, List.length_map]
  omega
theorem come_ch (w : TWorld) (m : TMail) : (comeW w m).Chosen.length ≤ w.Chosen.length + 1 := by
 unfold comeW
 split
 ·exact promised_ch _ _ _ _
 split
 ·exact taken_ch _ _ _ _
 split
 ·omega
 split
 ·split <;> exact Nat.le_succ _
 split <;> exact Nat.le_succ _
theorem come_len {w : TWorld} (h : WG w) (m : TMail) : (comeW w m).Mail.length ≤ w.Mail.length + 6 := by
 have h6 := h.mem.1
 have hadd : ∀ (w2 : TWorld) (q : TMail), w2.Mail = w.Mail → (addMail w2 q).Mail.length ≤ w.Mail.length + 6 := by
  intro w2 q h2
  show (w2.Mail ++ [q]).length ≤ _
  rw [h2]
  simp
 unfold comeW
 split
 ·have := promised_len w m.To m.Ballot ⟨m.From, m.Prior, m.Value⟩
  have hf := List.length_filter_le (fun to => decide (to ≠ m.To)) w.Members
  omega
 split
 ·rw [taken_mail]; omega
 split
 ·omega
 split
 ·split <;> exact hadd _ _ rfl
 split <;> exact hadd _ _ rfl
end Go.Proofs
end
section
namespace Go.Proofs
open Go.Tm
set_option linter.unusedSimpArgs false
structure MovedL (w : TWorld) (m : TMove) (x : TWorld) : Prop where
 mv : Moved w m x
 mail : x.Mail.length ≤ w.Mail.length + 6
 ch : x.Chosen.length ≤ w.Chosen.length + 1
theorem full_eqL {w x : TWorld} {m : TMove} (hm : MovedL w m x) : ∃ r, (if ((x.Mail.length : Int) > 1000) ∨ ((x.Chosen.length : Int) > 1000) then
 some ((⟨[], [], [], [], []⟩ : TWorld), (9 : Int))
 else
 some ((⟨x.Members, x.Votes, x.Tries, x.Mail, x.Chosen⟩ : TWorld), 0)) = some r ∧ (r.2 ≠ 0 → r.1 = noWorld) ∧ (r.2 = 0 → r.1.Mail.length ≤ 1000 ∧ r.1.Chosen.length ≤ 1000 ∧ MovedL w m r.1) ∧ (x.Mail.length ≤ 1000 → x.Chosen.length ≤ 1000 → r = (x, 0)) := by
 by_cases h : ((x.Mail.length : Int) > 1000) ∨ ((x.Chosen.length : Int) > 1000)
 ·exact ⟨_, if_pos h, fun _ => rfl, fun h => by simp at h, fun _ _ => by omega⟩
 ·refine ⟨_, if_neg h, fun h => by simp at h, fun _ => ⟨?_, ?_, hm⟩, fun _ _ => rfl⟩
  ·show x.Mail.length ≤ 1000; omega
  ·show x.Chosen.length ≤ 1000; omega
theorem do_eqL (w : TWorld) (m : TMove) (h : WOk w) (hg : WG w) : ∃ r, m_decree_Do w m = some r ∧ (r.2 ≠ 0 → r.1 = noWorld) ∧ (r.2 = 0 → r.1.Mail.length ≤ 1000 ∧ r.1.Chosen.length ≤ 1000 ∧ MovedL w m r.1 ∧ (m.Kind = 1 → ∃ b, (0 ≤ m.Node ∧ m.Node < 6) ∧ AskedS (vtW w m.Node) b [] ∧ m.Value.length ≤ 1024 ∧ (vtW w m.Node).Promised < b ∧ 8 ≤ b ∧ ownB b = m.Node.toNat ∧ r.1 = beginW w m.Node b m.Value)) ∧
  (m.Kind = 2 → 0 ≤ m.At → m.At < (w.Mail.length : Int) → w.Mail.length ≤ 900 → w.Chosen.length ≤ 900 → r = (comeW { w with Mail := w.Mail.eraseIdx m.At.toNat } (w.Mail.getD m.At.toNat default), 0)) := by
 obtain ⟨e, he, hok⟩ := dcheck_eq w h.proms
 have hs := h.shape
 rw [m_decree_Do, he]
 simp only [Option.bind_some]
 rw [if_neg (by simpa using hok.2 h), dtwin_eq h]
 simp only [Option.bind_some]
 have err : ∀ {A : TWorld × Int → Prop} {B : Prop} (e : Int), e ≠ 0 → (B → False) → ∃ r, some ((⟨[], [], [], [], []⟩ : TWorld), e) = some r ∧ (r.2 ≠ 0 → r.1 = noWorld) ∧ (r.2 = 0 → A r) ∧ (B → r = (comeW { w with Mail := w.Mail.eraseIdx m.At.toNat } (w.Mail.getD m.At.toNat default), 0)) := fun e he hB => ⟨_, rfl, fun _ => rfl, fun h => absurd h he, fun b => (hB b).elim⟩
 have hb1 : (if m.Kind = 1 then some (m.Kind == 1) else some (m.Kind == 5)) = some (decide (m.Kind = 1 ∨ m.Kind = 5)) := by
  by_cases h1 : m.Kind = 1 <;> by_cases h5 : m.Kind = 5 <;> simp [h1, h5]
 have hb2 : (if m.Kind = 2 then some (m.Kind == 2) else if m.Kind = 3 then some (m.Kind == 3) else some (m.Kind == 4)) = some (decide (m.Kind = 2 ∨ m.Kind = 3 ∨ m.Kind = 4)) := by
  by_cases h1 : m.Kind = 2 <;> by_cases h5 : m.Kind = 3 <;> by_cases h6 : m.Kind = 4 <;> simp [h1, h5, h6]
 have out : ∀ {D : TWorld × Int → Prop} {q : Option (TWorld × Int)}, (∃ r, q = some r ∧ (r.2 ≠ 0 → r.1 = noWorld) ∧ (r.2 = 0 → D r) ∧ (m.Kind = 2 ∧ 0 ≤ m.At ∧ m.At < (w.Mail.length : Int) ∧ w.Mail.length ≤ 900 ∧ w.Chosen.length ≤ 900 → r = (comeW { w with Mail := w.Mail.eraseIdx m.At.toNat } (w.Mail.getD m.At.toNat default), 0))) →
   ∃ r, q = some r ∧ (r.2 ≠ 0 → r.1 = noWorld) ∧ (r.2 = 0 → D r) ∧ (m.Kind = 2 → 0 ≤ m.At → m.At < (w.Mail.length : Int) → w.Mail.length ≤ 900 → w.Chosen.length ≤ 900 → r = (comeW { w with Mail := w.Mail.eraseIdx m.At.toNat } (w.Mail.getD m.At.toNat default), 0)) := by
  rintro D q ⟨r, h1, h2, h3, h4⟩
  exact ⟨r, h1, h2, h3, fun a b c d e => h4 ⟨a, b, c, d, e⟩⟩
 rw [hb1]
 simp only [Option.bind_some, decide_eq_true_eq]
 by_cases k1 : m.Kind = 1 ∨ m.Kind = 5
 ·have no2 : ¬ (m.Kind = 2 ∧ 0 ≤ m.At ∧ m.At < (w.Mail.length : Int) ∧ w.Mail.length ≤ 900 ∧ w.Chosen.length ≤ 900) := by omega
  have n2 : m.Kind ≠ 2 := by omega
  rw [if_pos k1, node_eq]
  simp only [Option.bind_some, decide_eq_true_eq]
  by_cases hn : 0 ≤ m.Node ∧ m.Node < 6
  ·rw [if_neg (by simpa using hn)]
   by_cases k5 : m.Kind = 5
   ·rw [if_pos k5, if_pos (by have := hs.trs; omega)]
    obtain ⟨r, f1, f2, f3, _⟩ := full_eqL (w := w) (m := m) (x := { w with Tries := w.Tries.set m.Node.toNat ⟨0, 0, [], [], [], [], []⟩ }) ⟨.crash hn rfl, by show w.Mail.length ≤ _; omega, by show w.Chosen.length ≤ _; omega⟩
    exact ⟨r, f1, f2, fun h => ⟨(f3 h).1, (f3 h).2.1, (f3 h).2.2, fun h1 => False.elim (by omega)⟩, fun h2 => absurd h2 n2⟩
   ·rw [if_neg k5]
    by_cases hl : (m.Value.length : Int) > 1024
    ·rw [if_pos hl]
     exact out (err 3 (by decide) no2)
    ·rw [if_neg hl]
     obtain ⟨r, hr, h1⟩ := beginW_eq w m.Node m.Value hn hs
     rw [hr]
     simp only [Option.bind_some]
     by_cases h0 : r.1 = 0
     ·obtain ⟨b, _, a1, a2, a3, a4, a5, a6, a7⟩ := h1 h0
      rw [if_neg (by simpa using h0), a7]
      obtain ⟨r, f1, f2, f3, _⟩ := full_eqL (w := w) (m := m) (x := beginW w m.Node b m.Value) ⟨.start (k1.resolve_right k5) hn b a1 a2 a3 a4 a5 a6 rfl, begin_len hg _ _ _ hn, promised_ch _ _ _ _⟩
      refine ⟨r, f1, f2, fun h => ⟨(f3 h).1, (f3 h).2.1, (f3 h).2.2, fun h1 => ⟨b, hn, a1, a2, a4, a5, a6, ?_⟩⟩, fun h2 => absurd h2 n2⟩
      by_cases hc : (((beginW w m.Node b m.Value).Mail.length : Int) > 1000) ∨ (((beginW w m.Node b m.Value).Chosen.length : Int) > 1000)
      ·rw [if_pos hc] at f1
       cases f1
       exact absurd h (by decide)
      ·rw [if_neg hc] at f1
       cases f1
       rfl
     ·rw [if_pos h0]
      exact out (err _ h0 no2)
  ·rw [if_pos hn]
   exact out (err 2 (by decide) no2)
 ·rw [if_neg k1, hb2]
  simp only [Option.bind_some, decide_eq_true_eq]
  by_cases k2 : m.Kind = 2 ∨ m.Kind = 3 ∨ m.Kind = 4
  ·rw [if_pos k2]
   by_cases ha : (m.At < 0) ∨ (m.At ≥ (w.Mail.length : Int))
   ·rw [if_pos ha]
    exact out (err 6 (by decide) (by omega))
   ·rw [if_neg ha, if_pos (by omega)]
    have hmem : w.Mail.getD m.At.toNat default ∈ w.Mail := by
     have h1 : m.At.toNat < w.Mail.length := by omega
     rw [List.getD_eq_getElem?_getD, List.getElem?_eq_getElem h1]
     exact List.getElem_mem h1
    have hM : ∃ M, (if ¬ (m.Kind = 3) then
 if 0 ≤ m.At ∧ m.At < (w.Mail.length : Int) then
 if w.Mail.length < 1000000 then
 some (w.Mail.eraseIdx m.At.toNat)
 else none
 else none
 else
 some w.Mail) = some M ∧ (∀ k ∈ M, k ∈ w.Mail) ∧ M.length ≤ w.Mail.length ∧ (m.Kind = 2 → M = w.Mail.eraseIdx m.At.toNat) := by
     by_cases k3 : m.Kind = 3
     ·exact ⟨w.Mail, by rw [if_neg (by simpa using k3)], fun _ h => h, Nat.le_refl _, fun h => by omega⟩
     ·exact ⟨_, by rw [if_pos k3, if_pos (by omega), if_pos (by have := hs.mail; omega)], fun k hk => List.mem_of_mem_eraseIdx hk, List.length_eraseIdx_le .., fun _ => rfl⟩
    obtain ⟨M, e1, e2, e3, e4⟩ := hM
    rw [e1]
    simp only [Option.bind_some]
    by_cases k4 : m.Kind = 4
    ·rw [if_neg (by simpa using k4)]
     obtain ⟨r, f1, f2, f3, _⟩ := full_eqL (w := w) (m := m) (x := { w with Mail := M }) ⟨.drop M e2 rfl, by show M.length ≤ _; omega, by show w.Chosen.length ≤ _; omega⟩
     exact ⟨r, f1, f2, fun h => ⟨(f3 h).1, (f3 h).2.1, (f3 h).2.2, fun h1 => False.elim (by omega)⟩, fun h2 => False.elim (by omega)⟩
    ·rw [if_pos k4]
     have e := comeW_eq { w with Mail := M } (w.Mail.getD m.At.toNat default) (h.mails _ hmem) ⟨hs.mem, hs.vts, hs.trs, Nat.le_trans e3 hs.mail, hs.ch⟩ h.proms
     rw [e]
     simp only [Option.bind_some]
     have hg2 : WG { w with Mail := M } := hg.setMail M fun k hk => .inl (e2 k hk)
     have l1 : (comeW { w with Mail := M } (w.Mail.getD m.At.toNat default)).Mail.length ≤ w.Mail.length + 6 := Nat.le_trans (come_len hg2 _) (Nat.add_le_add_right e3 6)
     have l2 : (comeW { w with Mail := M } (w.Mail.getD m.At.toNat default)).Chosen.length ≤ w.Chosen.length + 1 := come_ch _ _
     obtain ⟨r, f1, f2, f3, f4⟩ := full_eqL (w := w) (m := m) (x := comeW { w with Mail := M } (w.Mail.getD m.At.toNat default)) ⟨.come M e2 _ hmem rfl, l1, l2⟩
     exact ⟨r, f1, f2, fun h => ⟨(f3 h).1, (f3 h).2.1, (f3 h).2.2, fun h1 => False.elim (by omega)⟩, fun h2 _ _ hm9 hc9 => by
      rw [f4 (by omega) (by omega), e4 h2]⟩
  ·rw [if_neg k2]
   exact out (err 2 (by decide) (by omega))
structure LiveK (ms : List Int) (W : List UInt8 → Prop) (k : Nat) (w : TWorld) : Prop where
 live : Live ms W w
 bg : BG w
 mail : w.Mail.length ≤ 6 * k
 ch : w.Chosen.length ≤ k
theorem run_loopL (ms : List Int) (W : List UInt8 → Prop) : ∀ (l : List TMove) (k : Nat) (w : TWorld), LiveK ms W k w → (∀ m ∈ l, m.Kind = 1 → W m.Value) → ∃ x, m_decree_Run_loop1 l w.Members w.Votes w.Tries w.Mail w.Chosen = some (x.Members, x.Votes, x.Tries, x.Mail, x.Chosen) ∧ LiveK ms W (k + l.length) x := by
 intro l
 induction l with
 | nil => exact fun k w h _ => ⟨w, by rw [m_decree_Run_loop1], h⟩
 | cons m l ih =>
  intro k w h hW
  obtain ⟨r, hr, _, h2, _⟩ := do_eqL w m (h.live.good.ok h.live.mail h.live.ch) h.live.good
  rw [m_decree_Run_loop1]
  show ∃ x, Option.bind (Option.bind (m_decree_Do w m) _) _ = _ ∧ _
  rw [hr]
  simp only [Option.bind_some]
  have el : k + (m :: l).length = (k + 1) + l.length := by simp only [List.length_cons]; omega
  rw [el]
  by_cases h0 : r.2 = 0
  ·obtain ⟨a1, a2, a3, _⟩ := h2 h0
   rw [if_pos h0]
   simp only [Option.bind_some]
   exact ih (k + 1) r.1 ⟨⟨a3.mv.good h.live.good, a1, a2, a3.mv.lives h.live.hist h.live.good (hW m (List.mem_cons_self ..))⟩, a3.mv.bg h.live.good h.bg, by have := a3.mail; have := h.mail; omega, by have := a3.ch; have := h.ch; omega⟩ fun k hk => hW k (List.mem_cons_of_mem _ hk)
  ·rw [if_neg h0]
   simp only [Option.bind_some]
   exact ih (k + 1) w ⟨h.live, h.bg, by have := h.mail; omega, by have := h.ch; omega⟩ fun k hk => hW k (List.mem_cons_of_mem _ hk)
theorem run_eqL (ms : List Int) (l : List TMove) (W : List UInt8 → Prop) (hW : ∀ m ∈ l, m.Kind = 1 → W m.Value) : ∃ r, m_decree_Run ms l = some r ∧ (r.2 ≠ 0 → r.1 = noWorld) ∧ (r.2 = 0 → LiveK ms W l.length r.1) := by
 rw [m_decree_Run, m_decree_New, qcheck_eq]
 simp only [Option.bind_some]
 by_cases hq : QOk ms
 ·have hz : (if ms.length > 6 then (4 : Int) else if risesP (-1) ms = true ∧ ms ≠ [] then 0 else 60) = 0 := by
   rw [if_neg (by have := hq.1; omega), if_pos hq.2]
  rw [hz, if_neg (by simp), m_slices_Clone_int_int, if_pos (by have := hq.1; omega)]
  simp only [Option.bind_some]
  rw [if_neg (by simp)]
  by_cases hl : (l.length : Int) > 1000
  ·rw [if_pos hl]
   exact ⟨_, rfl, fun _ => rfl, fun h => by simp at h⟩
  ·rw [if_neg hl]
   obtain ⟨x, hx, hv⟩ := run_loopL ms W l 0 (newW ms) ⟨⟨new_good hq, Nat.zero_le _, Nat.zero_le _, new_lives ms W⟩, (fun m hm => by cases hm), Nat.zero_le _, Nat.zero_le _⟩ hW
   have hx : m_decree_Run_loop1 l ms ((List.replicate 6 (⟨0, 0, []⟩ : TVote)).take 6) ((List.replicate 6 (⟨0, 0, [], [], [], [], []⟩ : TAttempt)).take 6) [] [] = _ := hx
   rw [hx]
   rw [Nat.zero_add] at hv
   exact ⟨_, rfl, fun h => absurd rfl h, fun _ => hv⟩
 ·have hne : (if ms.length > 6 then (4 : Int) else if risesP (-1) ms = true ∧ ms ≠ [] then 0 else 60) ≠ 0 := by
   intro h
   split at h
   ·simp at h
   ·rename_i h1
    split at h
    ·rename_i h2
     exact hq ⟨by omega, h2⟩
    ·simp at h
  rw [if_pos hne]
  simp only [Option.bind_some]
  rw [if_pos hne]
  exact ⟨_, rfl, fun _ => rfl, fun h => absurd h hne⟩
theorem most_restrict {ms Q : List Int} (h : mostS ms Q = true) : mostS ms (ms.filter (hasI Q)) = true := by
 unfold mostS at h ⊢
 have e : ms.filter (hasI (ms.filter (hasI Q))) = ms.filter (hasI Q) := by
  refine List.filter_congr fun x hx => ?_
  rw [Bool.eq_iff_iff]
  simp only [hasI, List.any_eq_true, beq_iff_eq, List.mem_filter]
  constructor
  ·rintro ⟨y, ⟨_, hy⟩, rfl⟩; exact hy
  ·intro h; exact ⟨x, ⟨hx, h⟩, rfl⟩
 rw [e]; exact h
theorem cold_begin {ms W w acc told} (h : Hist ms W w acc told) (hg : WG w) (hbg : BG w) {n b : Int} {t : List UInt8} (hn : 0 ≤ n ∧ n < 6) (ha : AskedS (vtW w n) b []) (ht : t.length ≤ 1024) (hb : 8 ≤ b) (ho : ownB b = n.toNat) (hlt : (vtW w n).Promised < b)
  {b0 : Int} {v0 : List UInt8} {Q : List Int} (hQ : mostS ms Q = true) (hA : ∀ i ∈ Q, acc i.toNat b0 v0) (hb0 : b < b0) : Cold (ms.filter (hasI Q)) b (beginW w n b t) := by
 have hbd : ∀ i ∈ ms.filter (hasI Q), (0 ≤ i ∧ i < 6) ∧ b < (vtW w i).Promised := by
  intro i hi
  obtain ⟨h1, h2⟩ := List.mem_filter.1 hi
  have hq : i ∈ Q := by simpa [hasI] using h2
  refine ⟨hg.mem.nodes i (h.mem ▸ h1), ?_⟩
  have k1 := h.inv.top _ _ _ (hA i hq)
  have k2 := h.inv.prom i.toNat
  have e : ((pxOf w acc told).vt i.toNat).Promised = (vtW w i).Promised := rfl
  omega
 have hnQ : n ∉ ms.filter (hasI Q) := by
  intro hin
  have := (hbd n hin).2
  omega
 have c0 : Cold (ms.filter (hasI Q)) b w := by
  refine ⟨hbd, fun m hm hk hmb => ?_, fun i hi hph hbi => ?_⟩
  ·have := hbg m hm (.inr hk)
   rw [hmb, ho] at this
   have e : (w.Votes.getD n.toNat default).Promised = (vtW w n).Promised := rfl
   omega
  ·exfalso
   have k := h.inv.tries i (show ((pxOf w acc told).tr i).Phase ≠ 0 from hph)
   have k1 : ownB (w.Tries.getD i default).Ballot = i := k.own
   have k2 : (w.Tries.getD i default).Ballot ≤ (w.Votes.getD i default).Promised := k.le
   rw [hbi, ho] at k1
   rw [hbi, ← k1] at k2
   have e : (w.Votes.getD n.toNat default).Promised = (vtW w n).Promised := rfl
   omega
 have c1 := c0.setVote n.toNat { vtW w n with Promised := b } hg.vts (Int.le_of_lt hlt)
 have c2 := c1.setTry n.toNat ⟨1, b, w.Members, t, [], [], []⟩ hg.trs fun _ _ => ⟨rfl, fun p hp => by cases hp⟩
 have c3 : Cold (ms.filter (hasI Q)) b (preW w n b t) := c2.setMail _ fun k hk => by
  rcases List.mem_append.1 hk with hk | hk
  ·exact .inl hk
  ·obtain ⟨to, _, rfl⟩ := List.mem_map.1 hk
   exact .inr fun h => absurd h (by simp)
 rw [begin_pre]
 exact c3.promised (most_restrict hQ) (hg.pre n b t hn ha ht hb ho) h.mem n b _ hn fun _ => hnQ
end Go.Proofs
end
section
namespace Go.Proofs
open Go.Tm
set_option linter.unusedSimpArgs false
theorem promisedS_phase (a : TAttempt) (p : TPromise) (h : a.Phase = 1) : (promisedS a p).Phase = 1 ∨ (promisedS a p).Phase = 2 := by
 unfold promisedS withP
 split
 ·exact .inl h
 ·split
  ·exact .inr rfl
  ·exact .inl h
theorem accepted_same (a : TAttempt) (q : Int) : (acceptedS a q).Ballot = a.Ballot ∧ ((acceptedS a q).Phase = 3 ∨ (acceptedS a q).Phase = a.Phase) := by
 refine ⟨rfl, ?_⟩
 show (if mostS a.Members (if q ∈ a.Accepted then a.Accepted else insI q a.Accepted) = true then (3 : Int) else a.Phase) = 3 ∨ (if mostS a.Members (if q ∈ a.Accepted then a.Accepted else insI q a.Accepted) = true then (3 : Int) else a.Phase) = a.Phase
 by_cases h : mostS a.Members (if q ∈ a.Accepted then a.Accepted else insI q a.Accepted) = true
 ·rw [if_pos h]; exact .inl rfl
 ·rw [if_neg h]; exact .inr rfl
theorem taken_try (w : TWorld) (n b q : Int) (hn : 0 ≤ n ∧ n < 6) (hl : w.Tries.length = 6) : (trW (takenW w n b q) n).Ballot = (trW w n).Ballot ∧ ((trW (takenW w n b q) n).Phase = 3 ∨ (trW (takenW w n b q) n).Phase = (trW w n).Phase) := by
 unfold takenW
 split
 ·show ((w.Tries.set n.toNat (acceptedS (trW w n) q)).getD n.toNat default).Ballot = _ ∧ (((w.Tries.set n.toNat (acceptedS (trW w n) q)).getD n.toNat default).Phase = 3 ∨ ((w.Tries.set n.toNat (acceptedS (trW w n) q)).getD n.toNat default).Phase = _)
  rw [getD_set_same _ _ _ _ (by omega)]
  exact accepted_same _ _
 ·exact ⟨rfl, .inr rfl⟩
theorem own_try (w : TWorld) (n b : Int) (v : List UInt8) (hn : 0 ≤ n ∧ n < 6) (hl : w.Tries.length = 6) : (trW (ownVote w n b v) n).Ballot = (trW w n).Ballot ∧ ((trW (ownVote w n b v) n).Phase = 3 ∨ (trW (ownVote w n b v) n).Phase = (trW w n).Phase) := by
 unfold ownVote
 split
 ·exact taken_try { w with Votes := w.Votes.set n.toNat ⟨b, b, v⟩ } n b n hn hl
 ·exact ⟨rfl, .inr rfl⟩
theorem promised_try (w : TWorld) (n b : Int) (p : TPromise) (hn : 0 ≤ n ∧ n < 6) (hl : w.Tries.length = 6) : (trW (promisedW w n b p) n).Ballot = (trW w n).Ballot ∧ ∃ L, (promisedW w n b p).Mail = w.Mail ++ L ∧ (∀ k ∈ L, k.Kind = 3) ∧
  ((L = [] ∧ (promisedW w n b p).Chosen = w.Chosen ∧ (trW (promisedW w n b p) n).Phase = (trW w n).Phase) ∨ ((trW w n).Phase = 1 ∧ ((trW (promisedW w n b p) n).Phase = 2 ∨ (trW (promisedW w n b p) n).Phase = 3) ∧ L.length ≤ w.Members.length)) := by
 unfold promisedW
 split
 case isFalse => exact ⟨rfl, [], by simp, (by simp), .inl ⟨rfl, rfl, rfl⟩⟩
 rename_i hc
 obtain ⟨e1, _, _, _⟩ := promisedS_same (trW w n) p
 split
 ·rename_i h1
  show ((w.Tries.set n.toNat (promisedS (trW w n) p)).getD n.toNat default).Ballot = _ ∧ ∃ L, w.Mail = w.Mail ++ L ∧ _ ∧ ((_ ∧ w.Chosen = w.Chosen ∧ ((w.Tries.set n.toNat (promisedS (trW w n) p)).getD n.toNat default).Phase = _) ∨ _)
  rw [getD_set_same _ _ _ _ (by omega)]
  exact ⟨e1, [], by simp, (by simp), .inl ⟨rfl, rfl, h1.trans hc.2.1.symm⟩⟩
 ·rename_i h1
  have h2 : (promisedS (trW w n) p).Phase = 2 := (promisedS_phase _ p hc.2.1).resolve_left h1
  have hl2 : (tellS { w with Tries := w.Tries.set n.toNat (promisedS (trW w n) p) } ⟨n, 0, 3, 0, 0, b, 0, (promisedS (trW w n) p).Value, 0, 0⟩).Tries.length = 6 := by
   show (w.Tries.set _ _).length = 6
   simpa using hl
  have ho := own_try (tellS { w with Tries := w.Tries.set n.toNat (promisedS (trW w n) p) } ⟨n, 0, 3, 0, 0, b, 0, (promisedS (trW w n) p).Value, 0, 0⟩) n b (promisedS (trW w n) p).Value hn hl2
  have ht : trW (tellS { w with Tries := w.Tries.set n.toNat (promisedS (trW w n) p) } ⟨n, 0, 3, 0, 0, b, 0, (promisedS (trW w n) p).Value, 0, 0⟩) n = promisedS (trW w n) p := by
   show (w.Tries.set n.toNat (promisedS (trW w n) p)).getD n.toNat default = _
   rw [getD_set_same _ _ _ _ (by omega)]
  rw [ht] at ho
  refine ⟨ho.1.trans e1, (w.Members.filter fun to => decide (to ≠ n)).map fun to => ⟨n, to, 3, 0, 0, b, 0, (promisedS (trW w n) p).Value, 0, 0⟩, ?_, ?_, .inr ⟨hc.2.1, ?_, ?_⟩⟩
  ·rw [own_mail]; rfl
  ·intro k hk
   obtain ⟨to, _, rfl⟩ := List.mem_map.1 hk
   rfl
  ·rcases ho.2 with h | h
   ·exact .inr h
   ·exact .inl (h.trans h2)
  ·rw [List.length_map]; exact List.length_filter_le _ _
theorem come1 (w : TWorld) (m : TMail) (h1 : m.Kind = 1) : (comeW w m).Tries = w.Tries ∧ (comeW w m).Chosen = w.Chosen ∧ ∃ k : TMail, (comeW w m).Mail = w.Mail ++ [k] ∧ (k.Kind = 2 ∨ k.Kind = 5) := by
 unfold comeW
 rw [if_neg (by omega), if_neg (by omega), if_neg (by omega), if_pos h1]
 split
 ·exact ⟨rfl, rfl, _, rfl, .inl rfl⟩
 ·exact ⟨rfl, rfl, _, rfl, .inr rfl⟩
theorem come2' (w : TWorld) (m : TMail) (h1 : m.Kind = 2) : comeW w m = promisedW w m.To m.Ballot ⟨m.From, m.Prior, m.Value⟩ := by
 unfold comeW
 rw [if_pos h1]
def wt (n b q : Int) (m : TMail) : Nat := if m.Kind = 1 ∧ m.From = n ∧ m.To = q ∧ m.Ballot = b then 2 else if m.Kind = 2 ∧ m.To = n ∧ m.From = q ∧ m.Ballot = b then 1 else 0
def wts (n b q : Int) (l : List TMail) : Nat := (l.map (wt n b q)).sum
theorem wt_le (n b q : Int) (m : TMail) : wt n b q m ≤ 2 := by
 unfold wt
 split
 ·omega
 ·split <;> omega
theorem wts_le (n b q : Int) (l : List TMail) : wts n b q l ≤ 2 * l.length := by
 induction l with
 | nil => simp [wts]
 | cons m l ih =>
  have := wt_le n b q m
  simp only [wts, List.map_cons, List.sum_cons, List.length_cons] at ih ⊢
  omega
theorem wts_app (n b q : Int) (l k : List TMail) : wts n b q (l ++ k) = wts n b q l + wts n b q k := by simp [wts]
theorem wts_three (n b q : Int) (l : List TMail) (h : ∀ k ∈ l, k.Kind = 3) : wts n b q l = 0 := by
 induction l with
 | nil => rfl
 | cons m l ih =>
  have h1 := h m (by simp)
  have h2 := ih fun k hk => h k (by simp [hk])
  simp only [wts, List.map_cons, List.sum_cons] at h2 ⊢
  rw [h2]
  unfold wt
  rw [if_neg (by omega), if_neg (by omega)]
theorem wts_erase (n b q : Int) : ∀ (l : List TMail) (k : Nat), k < l.length → wts n b q (l.eraseIdx k) + wt n b q (l.getD k default) = wts n b q l
 | [], k, h => by simp at h
 | m :: l, 0, _ => by simp [wts]; omega
 | m :: l, k + 1, h => by
  have ih := wts_erase n b q l k (by simpa using h)
  simp only [wts, List.eraseIdx_cons_succ, List.map_cons, List.sum_cons, List.getD_cons_succ] at ih ⊢
  omega
structure LS (ms : List Int) (acc : Nat → Int → List UInt8 → Prop) (told : Int → List UInt8 → Prop) (n b b0 : Int) (Q : List Int) (x : TWorld) : Prop where
 good : WG x
 hist : Lives2 ms (fun _ => True) acc told x
 bal : (trW x n).Ballot = b
 ph : (trW x n).Phase ≠ 0
 cold : b < b0 → Cold Q b x
 mail : x.Mail.length + (if (trW x n).Phase = 1 then 6 else 0) ≤ 640
 ch : x.Chosen.length + (if (trW x n).Phase = 1 then 1 else 0) ≤ 120
theorem LS.step {ms acc told n b b0 Q x} (h : LS ms acc told n b b0 Q x) (hn : 0 ≤ n ∧ n < 6) (hQ : b < b0 → mostS ms Q = true) (q : Int) (k : Nat) (hk : k < x.Mail.length)
  (hm : ((x.Mail.getD k default).Kind = 1 ∧ (x.Mail.getD k default).From = n ∧ (x.Mail.getD k default).To = q ∨ (x.Mail.getD k default).Kind = 2 ∧ (x.Mail.getD k default).To = n ∧ (x.Mail.getD k default).From = q) ∧ (x.Mail.getD k default).Ballot = b) :
  LS ms acc told n b b0 Q (comeW { x with Mail := x.Mail.eraseIdx k } (x.Mail.getD k default)) ∧ wts n b q (comeW { x with Mail := x.Mail.eraseIdx k } (x.Mail.getD k default)).Mail < wts n b q x.Mail := by
 obtain ⟨m, hmd⟩ : ∃ m, m = x.Mail.getD k default := ⟨_, rfl⟩
 rw [← hmd] at hm ⊢
 have hmem : m ∈ x.Mail := by
  rw [hmd, List.getD_eq_getElem?_getD, List.getElem?_eq_getElem hk]
  exact List.getElem_mem hk
 have hMO := h.good.mails m hmem
 have hsub : ∀ r ∈ x.Mail.eraseIdx k, r ∈ x.Mail := fun r hr => List.mem_of_mem_eraseIdx hr
 have hg2 : WG { x with Mail := x.Mail.eraseIdx k } := h.good.setMail _ fun r hr => .inl (hsub r hr)
 have hw := wts_erase n b q x.Mail k hk
 rw [← hmd] at hw
 have hlen : (x.Mail.eraseIdx k).length + 1 = x.Mail.length := by rw [List.length_eraseIdx_of_lt hk]; omega
 have hgood := hg2.come m hMO
 have hhist : Lives2 ms (fun _ => True) acc told (comeW { x with Mail := x.Mail.eraseIdx k } m) := by
  obtain ⟨acc2, told2, h2, h3, h4⟩ := h.hist
  have h5 := h2.mails _ fun r hr => .inl (hsub r hr)
  obtain ⟨acc3, told3, h6, h7, h8⟩ := h5.come2 m hMO.2.1 (by omega) (fun e => h2.inv.mailP _ _ _ _ ⟨m, hmem, e, rfl, rfl, rfl, rfl⟩) (fun e => h2.inv.mailA _ _ ⟨m, hmem, e, rfl, rfl⟩) (fun e => h2.inv.mailT _ _ ⟨m, hmem, e, rfl, rfl⟩)
  exact ⟨acc3, told3, h6, fun i c u hc => h7 _ _ _ (h3 _ _ _ hc), fun c u hc => h8 _ _ (h4 _ _ hc)⟩
 have hms : x.Members = ms := by
  obtain ⟨_, _, h2, _, _⟩ := h.hist
  exact h2.mem
 have hcold : b < b0 → Cold Q b (comeW { x with Mail := x.Mail.eraseIdx k } m) := fun hlt =>
  ((h.cold hlt).setMail _ fun r hr => .inl (hsub r hr)).come (hQ hlt) hg2 hms m hMO fun h2 hb => (h.cold hlt).mail m hmem h2 hb
 rcases hm with ⟨⟨h1, hf, ht⟩ | ⟨h1, ht, hf⟩, hb⟩
 ·obtain ⟨e1, e2, r, e3, e4⟩ := come1 { x with Mail := x.Mail.eraseIdx k } m h1
  have et : trW (comeW { x with Mail := x.Mail.eraseIdx k } m) n = trW x n := by unfold trW; rw [e1]
  refine ⟨⟨hgood, hhist, by rw [et]; exact h.bal, by rw [et]; exact h.ph, hcold, ?_, ?_⟩, ?_⟩
  ·rw [et, e3, List.length_append]
   have := h.mail
   simp only [List.length_singleton]
   show (x.Mail.eraseIdx k).length + 1 + _ ≤ _
   omega
  ·rw [et, e2]; exact h.ch
  ·rw [e3, wts_app]
   have h2 : wt n b q m = 2 := by unfold wt; rw [if_pos ⟨h1, hf, ht, hb⟩]
   have h3 : wts n b q [r] ≤ 1 := by
    simp only [wts, List.map_cons, List.map_nil, List.sum_cons, List.sum_nil]
    unfold wt
    rw [if_neg (by omega)]
    split <;> omega
   show wts n b q (x.Mail.eraseIdx k) + _ < _
   omega
 ·rw [come2' _ m h1, ht]
  rw [come2' _ m h1, ht] at hgood hhist hcold
  obtain ⟨e1, L, e2, e3, e4⟩ := promised_try { x with Mail := x.Mail.eraseIdx k } n m.Ballot ⟨m.From, m.Prior, m.Value⟩ hn h.good.trs
  have hch := promised_ch { x with Mail := x.Mail.eraseIdx k } n m.Ballot ⟨m.From, m.Prior, m.Value⟩
  have hMl := h.mail
  have hCl := h.ch
  have h6 := h.good.mem.1
  have etr : trW { x with Mail := x.Mail.eraseIdx k } n = trW x n := rfl
  rw [etr] at e1 e4
  have el : (promisedW { x with Mail := x.Mail.eraseIdx k } n m.Ballot ⟨m.From, m.Prior, m.Value⟩).Mail.length = (x.Mail.eraseIdx k).length + L.length := by rw [e2, List.length_append]
  have hch : (promisedW { x with Mail := x.Mail.eraseIdx k } n m.Ballot ⟨m.From, m.Prior, m.Value⟩).Chosen.length ≤ x.Chosen.length + 1 := hch
  refine ⟨⟨hgood, hhist, e1.trans h.bal, ?_, hcold, ?_, ?_⟩, ?_⟩
  ·rcases e4 with ⟨_, _, h4⟩ | ⟨_, h4, _⟩
   ·rw [h4]; exact h.ph
   ·omega
  ·rw [el]
   rcases e4 with ⟨h3, _, h4⟩ | ⟨h3, h4, h5⟩
   ·rw [h4, h3]
    simp only [List.length_nil]
    omega
   ·rw [if_pos h3] at hMl
    rw [if_neg (by omega)]
    have h5 : L.length ≤ x.Members.length := h5
    omega
  ·rcases e4 with ⟨_, h3, h4⟩ | ⟨h3, h4, _⟩
   ·rw [h4, h3]; exact hCl
   ·rw [if_pos h3] at hCl
    rw [if_neg (by omega)]
    omega
  ·rw [e2, wts_app, wts_three n b q L e3]
   have h2 : wt n b q m = 1 := by unfold wt; rw [if_neg (by omega), if_pos ⟨h1, ht, hf, hb⟩]
   show wts n b q (x.Mail.eraseIdx k) + _ < _
   omega
theorem LS.last {ms acc told n b b0 Q x v0} (h : LS ms acc told n b b0 Q x) (hn : 0 ≤ n ∧ n < 6) {Q0 : List Int} (hQ0 : mostS ms Q0 = true) (hA : ∀ i ∈ Q0, acc i.toNat b0 v0) (h0 : told b0 v0) : (trW x n).Phase < 2 ∨ (trW x n).Value = v0 := by
 obtain ⟨acc2, told2, h2, h3, h4⟩ := h.hist
 have t := h2.inv.tries n.toNat (show ((pxOf x acc2 told2).tr n.toNat).Phase ≠ 0 from h.ph)
 have t : TryOK ms (fun _ => True) (pxOf x acc2 told2) n.toNat (trW x n) := t
 by_cases h1 : (trW x n).Phase = 1
 ·left; omega
 have ht := t.tell h1
 rw [h.bal] at ht
 right
 rcases Int.lt_trichotomy b b0 with hlt | rfl | hlt
 ·have := ((h.cold hlt).try_ n.toNat (by omega) h.ph h.bal).1
  exact absurd this h1
 ·exact h2.inv.one _ _ _ ht (h4 _ _ h0)
 ·exact h2.inv.later hQ0 (fun i hi => h3 _ _ _ (hA i hi)) b.toNat b _ (Nat.le_refl _) hlt ht
end Go.Proofs
end
section
namespace Go.Proofs
open Go.Tm
set_option linter.unusedSimpArgs false
section
variable {ms : List Int} {acc : Nat → Int → List UInt8 → Prop} {told : Int → List UInt8 → Prop} {n b b0 : Int} {Q : List Int}
set_option maxRecDepth 20000 in
theorem later_loop2 (hn : 0 ≤ n ∧ n < 6) (hQ : b < b0 → mostS ms Q = true) (a3 : List Int) (v4 : TWorld × Int) (hb : (v4.1.Tries.getD n.toNat default).Ballot = b) (n1 : Int) (h1 : 0 ≤ n1 ∧ n1 < (a3.length : Int)) : ∀ (fu : Nat) (x : TWorld) (k : Int), LS ms acc told n b b0 Q x → -1 ≤ k → k < (x.Mail.length : Int) → wts n b (a3.getD n1.toNat default) x.Mail * 1000 + (k + 1).toNat < fu →
  ∃ y, LS ms acc told n b b0 Q y ∧ m_towncrierlaw09_DecreeLater_loop2 n a3 v4 n1 fu x.Members x.Votes x.Tries x.Mail x.Chosen k = some (.inr (y.Members, y.Votes, y.Tries, y.Mail, y.Chosen)) := by
 intro fu
 induction fu with
 | zero => intro x k _ _ _ h; omega
 | succ fu ih =>
  intro x k h hk1 hk2 hf
  rw [m_towncrierlaw09_DecreeLater_loop2]
  by_cases hk : k ≥ 0
  ·have hml := h.mail
   have hm9 : x.Mail.length ≤ 640 := by omega
   have hcl := h.ch
   rw [if_pos hk, if_pos ⟨hk, hk2⟩, if_pos (fun _ => h1), if_pos (fun _ => h1), hb]
   obtain ⟨m, hmd⟩ : ∃ m, m = x.Mail.getD k.toNat default := ⟨_, rfl⟩
   rw [← hmd]
   obtain ⟨q, hq⟩ : ∃ q, q = a3.getD n1.toNat default := ⟨_, rfl⟩
   rw [← hq] at hf ih ⊢
   by_cases hc : (¬ (((m.Kind = 1 ∧ m.From = n) ∧ m.To = q) ∨ ((m.Kind = 2 ∧ m.To = n) ∧ m.From = q))) ∨ ¬ m.Ballot = b
   ·rw [if_pos hc]
    simp only [Option.bind_some]
    rw [wr64 _ (by omega)]
    exact ih x (k - 1) h (by omega) (by omega) (by omega)
   ·rw [if_neg hc]
    have hmine : ((m.Kind = 1 ∧ m.From = n ∧ m.To = q) ∨ (m.Kind = 2 ∧ m.To = n ∧ m.From = q)) ∧ m.Ballot = b := by
     have hA := Classical.byContradiction fun h => hc (.inl h)
     have hB := Classical.byContradiction fun h => hc (.inr h)
     exact ⟨hA.imp (fun h => ⟨h.1.1, h.1.2, h.2⟩) (fun h => ⟨h.1.1, h.1.2, h.2⟩), hB⟩
    have hkl : k.toNat < x.Mail.length := by omega
    obtain ⟨hs, hw⟩ := h.step hn hQ q k.toNat hkl (by rw [← hmd]; exact hmine)
    rw [← hmd] at hs hw
    obtain ⟨r, hr, -, -, h5⟩ := do_eqL x ⟨2, 0, k, []⟩ (h.good.ok (by omega) (by omega)) h.good
    have h5 := h5 rfl hk hk2 (by omega) (by omega)
    have hr2 : m_decree_Do ⟨x.Members, x.Votes, x.Tries, x.Mail, x.Chosen⟩ ⟨2, 0, k, []⟩ = some r := hr
    rw [m_towncrierlaw09_deliver]
    simp only [Option.bind_some]
    rw [hr2]
    simp only [Option.bind_some]
    have h5 : r = (comeW { x with Mail := x.Mail.eraseIdx k.toNat } m, 0) := by rw [hmd]; exact h5
    generalize comeW { x with Mail := x.Mail.eraseIdx k.toNat } m = y at hs hw h5
    rw [h5]
    simp only [not_true_eq_false, if_false, Option.bind_some]
    have hyl := hs.mail
    have hyl2 : y.Mail.length ≤ 640 := by omega
    clear hyl hml hcl hr hr2 h5 hmine hc
    rw [wr64 _ (by omega)]
    exact ih _ _ hs (by omega) (by omega) (by omega)
  ·rw [if_neg hk]
   exact ⟨x, h, rfl⟩
set_option maxRecDepth 20000 in
theorem later_loop1 (hn : 0 ≤ n ∧ n < 6) (hQ : b < b0 → mostS ms Q = true) (a3 : List Int) (h20 : a3.length ≤ 20) (v4 : TWorld × Int) (hb : (v4.1.Tries.getD n.toNat default).Ballot = b) : ∀ (fu : Nat) (x : TWorld) (i : Int), LS ms acc told n b b0 Q x → 0 ≤ i → i ≤ (a3.length : Int) → ((a3.length : Int) - i).toNat < fu →
  ∃ y, LS ms acc told n b b0 Q y ∧ m_towncrierlaw09_DecreeLater_loop1 n a3 v4 fu x.Members x.Votes x.Tries x.Mail x.Chosen i = some (.inr (y.Members, y.Votes, y.Tries, y.Mail, y.Chosen)) := by
 intro fu
 induction fu with
 | zero => intro x i _ _ _ h; omega
 | succ fu ih =>
  intro x i h h0 h1 hf
  rw [m_towncrierlaw09_DecreeLater_loop1]
  by_cases hi : i < (a3.length : Int)
  ·rw [if_pos hi]
   have hml := h.mail
   have hwl := wts_le n b (a3.getD i.toNat default) x.Mail
   have hm9 : x.Mail.length ≤ 640 := by omega
   rw [wr64 _ (by omega)]
   obtain ⟨y, hy, he⟩ := later_loop2 hn hQ a3 v4 hb i ⟨h0, hi⟩ (x.Mail.length * 5000 + 3000000) x ((x.Mail.length : Int) - 1) h (by omega) (by omega) (by omega)
   rw [he]
   simp only [Option.bind_some]
   rw [wr64 _ (by omega)]
   exact ih y (i + 1) hy (by omega) (by omega) (by omega)
  ·rw [if_neg hi]
   exact ⟨x, h, rfl⟩
end
set_option maxRecDepth 20000 in
theorem later_law (ms : List Int) (l : List TMove) (n : Int) (whom : List Int) : m_towncrierlaw09_DecreeLater ms l n whom = some true := by
 rw [m_towncrierlaw09_DecreeLater]
 obtain ⟨lb, hlb⟩ := long_eq l
 rw [hlb]
 have e : (if ¬ ((l.length : Int) > 100) then some lb else some default) = some (if ¬ ((l.length : Int) > 100) then lb else default) := by split <;> rfl
 rw [e]
 simp only [Option.bind_some]
 generalize (if ¬ ((l.length : Int) > 100) then lb else default) = b2
 by_cases hc : ((l.length : Int) > 100 ∨ b2 = true) ∨ (whom.length : Int) > 20
 ·rw [if_pos hc]
 rw [if_neg hc]
 have hl100 : l.length ≤ 100 := by omega
 have hw20 : whom.length ≤ 20 := by omega
 obtain ⟨r, hr, h1, h2⟩ := run_eqL ms l (fun _ => True) fun _ _ _ => trivial
 rw [hr]
 simp only [Option.bind_some]
 rw [m_towncrierlaw09_begin]
 simp only [Option.bind_some]
 by_cases h0 : r.2 = 0
 ·have hv := h2 h0
  have hmail := hv.mail
  have hch := hv.ch
  obtain ⟨r4, hr4, _, h4, _⟩ := do_eqL r.1 ⟨1, n, 0, [108, 97, 116, 101, 114]⟩ (hv.live.good.ok hv.live.mail hv.live.ch) hv.live.good
  rw [hr4]
  simp only [Option.bind_some]
  by_cases hd : ((((¬ (r.2 = 0) ∨ ¬ (r4.2 = 0)) ∨ (r.1.Chosen.length : Int) = 0) ∨ n < 0) ∨ n > 5) ∨ ¬ (r4.1.Tries.length : Int) = 6
  ·rw [if_pos hd]
  rw [if_neg hd]
  have hz : r4.2 = 0 := by
   apply Classical.byContradiction
   intro h
   exact hd (.inl (.inl (.inl (.inl (.inr h)))))
  obtain ⟨_, _, hml, hst⟩ := h4 hz
  obtain ⟨b, hn, ha, ht, hlt, h8, ho, hx⟩ := hst rfl
  clear hst h4
  simp only [] at hn ha ht hlt ho hx
  have hg4 := hml.mv.good hv.live.good
  rw [if_pos (by have := hg4.trs; omega)]
  obtain ⟨acc, told, hh⟩ := hv.live.hist
  -- what was chosen
  have hc0 : r.1.Chosen.length ≠ 0 := by omega
  have hcm : r.1.Chosen.getD 0 default ∈ r.1.Chosen := by
   rw [List.getD_eq_getElem?_getD, List.getElem?_eq_getElem (by omega)]
   exact List.getElem_mem (by omega)
  obtain ⟨b0, Q0, hQ0, ht0, hA⟩ := hh.inv.ch _ (show (pxOf r.1 acc told).ch (r.1.Chosen.getD 0 default).Value from ⟨_, hcm, rfl⟩)
  have hlives : Lives2 ms (fun _ => True) acc told r4.1 := by
   rw [hx]; exact hh.begin2 n b _ hn (by omega) ho hlt trivial
  have hcold : b < b0 → Cold (ms.filter (hasI Q0)) b r4.1 := fun hb => by
   rw [hx]; exact cold_begin hh hv.live.good hv.bg hn ha ht h8 ho hlt hQ0 hA hb
  -- the new try
  obtain ⟨e1, L, e2, e3, e4⟩ := promised_try (preW r.1 n b [108, 97, 116, 101, 114]) n b ⟨n, (vtW r.1 n).Ballot, (vtW r.1 n).Value⟩ hn (by show (r.1.Tries.set _ _).length = 6; simpa using hv.live.good.trs)
  rw [← begin_pre, ← hx] at e1 e2 e4
  rw [pre_try hv.live.good n b _ hn] at e1 e4
  have hLS : LS ms acc told n b b0 (ms.filter (hasI Q0)) r4.1 := by
   refine ⟨hg4, hlives, e1, ?_, hcold, ?_, ?_⟩
   ·rcases e4 with ⟨_, _, h⟩ | ⟨_, h, _⟩
    ·rw [h]; show (1 : Int) ≠ 0; decide
    ·omega
   ·have := hml.mail
    split <;> omega
   ·have := hml.ch
    split <;> omega
  obtain ⟨y, hy, hlo⟩ := later_loop1 hn (fun _ => most_restrict hQ0) whom hw20 r4 e1 (whom.length + 1) r4.1 0 hLS (by omega) (by omega) (by omega)
  rw [hlo]
  simp only [Option.bind_some]
  rw [if_pos (by have := hy.good.trs; omega), if_pos (fun _ => by omega)]
  have hfin := hy.last hn hQ0 hA ht0
  have hb3 : ((decide ((y.Tries.getD n.toNat default).Phase < 2)) || ((y.Tries.getD n.toNat default).Value == (r.1.Chosen.getD 0 default).Value)) = true := by
   rcases hfin with h | h
   ·rw [Bool.or_eq_true]; exact .inl (decide_eq_true h)
   ·rw [Bool.or_eq_true]; exact .inr (by rw [beq_iff_eq]; exact h)
  rw [hb3]
  rfl
 ·have hno := h1 h0
  have hd : ∃ z, m_decree_Do r.1 ⟨1, n, 0, [108, 97, 116, 101, 114]⟩ = some z := by
   rw [hno]
   obtain ⟨e, he, hok⟩ := dcheck_eq noWorld (fun t ht => by cases ht)
   rw [m_decree_Do, he]
   simp only [Option.bind_some]
   rw [if_pos (fun h => by have := (hok.1 h).vts; simp [noWorld] at this)]
   exact ⟨_, rfl⟩
  obtain ⟨z, hz⟩ := hd
  rw [hz]
  simp only [Option.bind_some]
  rw [if_pos (.inl (.inl (.inl (.inl (.inl h0)))))]
end Go.Proofs
end

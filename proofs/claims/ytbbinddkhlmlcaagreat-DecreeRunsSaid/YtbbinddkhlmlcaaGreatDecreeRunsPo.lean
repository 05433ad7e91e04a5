/- Texts of the proof. -/
import Derived.Test.YtbbinddkhlmlcaaGreatDecreeRunsPn
import Derived.Test.YtbbinddkhlmlcaaGreatDecreeRunsPi
import Derived.Test.YtbbinddkhlmlcaaGreatDecreeRunsPl
section
namespace Go.Proofs
open Go.Tm
set_option linter.unusedSimpArgs false
theorem of_eq (b : Int) : ∃ r, m_ballot_Of b = some r /\ (BOk b -> r.2.1 = b.tmod 8) := by
 rw [m_ballot_Of]
 simp only [bnode_eq]
 unfold BOk
 by_cases h : wr .i64 (b.tdiv 8) < 1 \/ wr .i64 (b.tdiv 8) > 1048576
 ·exact ⟨(0, 0, 50), by simp [h], fun k => absurd h k.1⟩
 ·by_cases h1 : b.tmod 8 >= 0 <;> by_cases h2 : b.tmod 8 < 6 <;> simp [h, h1, h2]
def TOk (w : TWorld) (i : Nat) : Prop := VOk (w.Votes.getD i default) /\ Valid (w.Tries.getD i default) /\ ((w.Tries.getD i default).Phase ≠ 0 -> ownB (w.Tries.getD i default).Ballot = i /\ (w.Tries.getD i default).Members = w.Members)
theorem cl1_eq (w : TWorld) (hv : w.Votes.length = 6) (ht : w.Tries.length = 6) (hl : ∀ t ∈ w.Tries, t.Promises.length < 1000000) : ∀ (l : List TAttempt) (n : Nat) (b : Bool), w.Tries.drop n = l -> ∃ r, zb4 w l n b = some r /\ (r = true ↔ b = true /\ ∀ i, n <= i -> i < 6 -> TOk w i) := by
 intro l
 induction l with
 | nil =>
  intro n b hd
  have hn : 6 <= n := by rw [<- ht]; exact List.drop_eq_nil_iff.1 hd
  exact ⟨b, by rw [zb4], by constructor; exact fun h => ⟨h, fun i h1 h2 => by omega⟩; exact fun h => h.1⟩
 | cons y l ih =>
  intro n b hd
  have hn : n < w.Tries.length := by
   apply Nat.lt_of_not_le
   intro h
   rw [List.drop_eq_nil_iff.2 h] at hd
   cases hd
  have hy : w.Tries.getD n default = y := by
   have h1 := List.drop_eq_getElem_cons hn
   rw [hd] at h1
   rw [List.getD_eq_getElem?_getD, List.getElem?_eq_getElem hn]
   exact (List.cons.inj h1).1.symm
  have hd2 : w.Tries.drop (n + 1) = l := by
   rw [<- List.drop_drop, hd]
   rfl
  have hym : y ∈ w.Tries := by
   have h1 : y ∈ w.Tries.drop n := by rw [hd]; exact List.mem_cons_self ..
   exact List.mem_of_mem_drop h1
  obtain ⟨e, he, hva⟩ := check_eq y (hl y hym)
  obtain ⟨r, hr, hrb⟩ := of_eq y.Ballot
  rw [zb4, if_pos (by omega)]
  simp only [vcheck_eq, he, hr, Option.bind_some]
  suffices hs : ∃ b3 : Bool, (Option.bind (if b = true then some (if VOk (w.Votes.getD n default) then (0 : Int) else 8) else some default) fun v2 =>
  Option.bind (if (b = true) /\ (v2 = 0) then some e else some default) fun v3 =>
  if ¬ (y.Phase = 0) then
  Option.bind (if (((b = true) /\ (v2 = 0)) /\ (v3 = 0)) /\ (r.2.1 = (n : Int)) then zat (y.Members) w.Members else some default) fun v5 =>
  some ((((b && (v2 == 0)) && (v3 == 0)) && (r.2.1 == (n : Int))) && v5)
  else
  some ((b && (v2 == 0)) && (v3 == 0))) = some b3 /\ (b3 = true ↔ b = true /\ TOk w n) by
   obtain ⟨b3, h1, h2⟩ := hs
   rw [h1]
   obtain ⟨q, h3, h4⟩ := ih (n + 1) b3 hd2
   refine ⟨q, h3, h4.trans ?_⟩
   rw [h2]
   constructor
   ·rintro ⟨⟨h5, h6⟩, h7⟩
    refine ⟨h5, fun i hi h6i => ?_⟩
    by_cases hin : i = n
    ·rw [hin]; exact h6
    ·exact h7 i (by omega) h6i
   ·rintro ⟨h5, h6⟩
    exact ⟨⟨h5, h6 n (Nat.le_refl _) (by omega)⟩, fun i hi h6i => h6 i (by omega) h6i⟩
  unfold TOk
  rw [hy]
  generalize w.Votes.getD n default = vt
  cases b with
  | false =>
   simp only [Bool.false_eq_true, if_false, false_and, Option.bind_some, Bool.false_and]
   by_cases hp : y.Phase = 0
   ·exact ⟨false, by simp [hp], by simp⟩
   ·exact ⟨false, by simp [hp], by simp⟩
  | true =>
   by_cases hV : VOk vt
   ·by_cases h0 : e = 0
    ·have hvy := hva.1 h0
     by_cases hp : y.Phase = 0
     ·exact ⟨true, by simp [hV, h0, hp], by simp [hV, hvy, hp]⟩
     ·have hk := hvy.kept hp
      have hrt := hrb hk.ballot
      have ho : r.2.1 = (n : Int) ↔ ownB y.Ballot = n := by
       rw [hrt]
       unfold ownB
       have := hk.ballot.2.1
       omega
      by_cases hb : r.2.1 = (n : Int)
      ·rw [equal_eq]
       refine ⟨decide (y.Members = w.Members), by simp [hV, h0, hp, hb], ?_⟩
       simp [hV, hvy, hp, ho.1 hb]
      ·have hb2 : ¬ ownB y.Ballot = n := fun h => hb (ho.2 h)
       exact ⟨false, by simp [hV, h0, hp, hb], by simp [hp, hb2]⟩
    ·have hvy : ¬ Valid y := fun h => h0 (hva.2 h)
     by_cases hp : y.Phase = 0
     ·exact ⟨false, by simp [hV, h0, hp], by simp [hvy]⟩
     ·exact ⟨false, by simp [hV, h0, hp], by simp [hvy]⟩
   ·by_cases hp : y.Phase = 0
    ·exact ⟨false, by simp [hV, hp], by simp [hV]⟩
    ·exact ⟨false, by simp [hV, hp], by simp [hV]⟩
theorem dcheck_eq (w : TWorld) (hl : ∀ t ∈ w.Tries, t.Promises.length < 1000000) : ∃ e, m_decree_Check w = some e /\ (e = 0 ↔ WOk w) := by
 rw [m_decree_Check, qcheck_eq]
 simp only [Option.bind_some]
 by_cases hq : QOk w.Members
 ·have h1 : (if w.Members.length > 6 then (4 : Int) else if zbt (-1) w.Members = true /\ w.Members ≠ [] then 0 else 60) = 0 := by
   rw [if_neg (by have := hq.1; omega), if_pos hq.2]
  rw [h1]
  by_cases h : w.Votes.length = 6 /\ w.Tries.length = 6 /\ w.Mail.length <= 1000 /\ w.Chosen.length <= 1000
  ·obtain ⟨h2, h3, h4, h5⟩ := h
   rw [if_neg (by omega)]
   obtain ⟨r, hr, hr2⟩ := cl1_eq w h2 h3 hl w.Tries 0 (((((0 == (0:Int)) && ((w.Votes.length : Int) == 6)) && ((w.Tries.length : Int) == 6)) && (decide ((w.Mail.length : Int) <= 1000))) && (decide ((w.Chosen.length : Int) <= 1000))) rfl
   rw [hr]
   simp only [Option.bind_some, cl2_eq, cl3_eq]
   have hb : (((((0 == (0:Int)) && ((w.Votes.length : Int) == 6)) && ((w.Tries.length : Int) == 6)) && (decide ((w.Mail.length : Int) <= 1000))) && (decide ((w.Chosen.length : Int) <= 1000))) = true := by
    simp; omega
   rw [hb] at hr2
   have hw : WOk w ↔ (r && decide (∀ m ∈ w.Mail, MOk m) && decide (∀ c ∈ w.Chosen, (0 <= c.Node /\ c.Node < 6) /\ c.Value.length <= 1024)) = true := by
    rw [Bool.and_eq_true, Bool.and_eq_true, hr2, decide_eq_true_iff, decide_eq_true_iff]
    constructor
    ·exact fun k => ⟨⟨⟨rfl, fun i _ hi => ⟨k.vote i hi, k.try_ i hi⟩⟩, k.mails⟩, k.chs⟩
    ·exact fun k => ⟨hq, h2, h3, h4, h5, fun i hi => (k.1.1.2 i (Nat.zero_le _) hi).1, fun i hi => (k.1.1.2 i (Nat.zero_le _) hi).2, k.1.2, k.2⟩
   by_cases hb3 : (r && decide (∀ m ∈ w.Mail, MOk m) && decide (∀ c ∈ w.Chosen, (0 <= c.Node /\ c.Node < 6) /\ c.Value.length <= 1024)) = true
   ·exact ⟨0, by rw [if_neg (by rw [hb3]; simp)], ⟨fun _ => hw.2 hb3, fun _ => rfl⟩⟩
   ·exact ⟨8, by rw [if_pos hb3], ⟨fun h => by simp at h, fun h => absurd (hw.1 h) hb3⟩⟩
  ·rw [if_pos (by omega)]
   exact ⟨8, rfl, fun h => by simp at h, fun k => absurd ⟨k.vts, k.trs, k.mail, k.ch⟩ h⟩
 ·rw [if_pos]
  ·exact ⟨8, rfl, fun h => by simp at h, fun k => absurd k.mem hq⟩
  ·intro h
   have h1 := h.1.1.1.1
   split at h1
   ·simp at h1
   ·rename_i h2
    split at h1
    ·rename_i h3
     exact hq ⟨by omega, h3⟩
    ·simp at h1
end Go.Proofs
end
section
namespace Go.Proofs
open Go.Tm
set_option linter.unusedSimpArgs false
theorem Valid.len {a : TAttempt} (h : Valid a) : a.Members.length <= 6 /\ a.Promises.length <= 6 /\ a.Accepted.length <= 6 := by
 by_cases h0 : a.Phase = 0
 ·unfold Valid at h
  rw [if_pos h0] at h
  subst h
  simp
 ·exact (h.kept h0).lens
theorem WOk.proms {w : TWorld} (h : WOk w) : ∀ t ∈ w.Tries, t.Promises.length < 1000000 := by
 intro t ht
 obtain ⟨i, hi, rfl⟩ := List.getElem_of_mem ht
 have h6 : i < 6 := by rw [<- h.trs]; exact hi
 have hv := (h.try_ i h6).1.len.2.1
 rw [List.getD_eq_getElem?_getD, List.getElem?_eq_getElem hi] at hv
 simp only [Option.getD_some] at hv
 omega
theorem set_getD {α : Type} (l : List α) (n : Nat) (d : α) : l.set n (l.getD n d) = l := by
 apply List.ext_getElem
 ·simp
 ·intro i h1 h2
  by_cases e : n = i
  ·subst e
   simp [List.getD, h2]
  ·simp [List.getElem_set_ne e]
theorem twin_loop (l : List TAttempt) (hl : l.length = 6) (hv : ∀ i, i < 6 -> Valid (l.getD i default)) : ∀ (k n fu : Nat), n + k = 6 -> k < fu -> zba l fu l (n : Int) = some l := by
 intro k
 induction k with
 | zero =>
  intro n fu hn hf
  obtain ⟨f, rfl⟩ : ∃ f, fu = f + 1 := ⟨fu - 1, by omega⟩
  rw [zba, if_neg (by omega), if_pos (by omega)]
 | succ k ih =>
  intro n fu hn hf
  obtain ⟨f, rfl⟩ : ∃ f, fu = f + 1 := ⟨fu - 1, by omega⟩
  have h1 := (hv n (by omega)).len
  rw [zba, if_pos (by omega), if_pos (by omega), Int.toNat_natCast, twin_eq _ (by omega) (by omega) (by omega)]
  simp only [Option.bind_some]
  rw [if_pos (by omega), if_pos (by omega), set_getD, wr64 _ (by omega), show (n : Int) + 1 = ((n + 1 : Nat) : Int) from rfl]
  exact ih (n + 1) f (by omega) (by omega)
theorem dtwin_eq {w : TWorld} (h : WOk w) : m_decree_Twin w = some w := by
 have h6 := h.mem.1
 have h1 := h.vts
 have h2 := h.trs
 have h3 := h.mail
 have h4 := h.ch
 rw [m_decree_Twin, zah, m_slices_Clone_Vote_Vote, m_slices_Clone_Mail_Mail, zbv, zbl]
 rw [if_pos (by omega), if_pos (by omega), if_pos (by omega), if_pos (by omega), if_pos (by omega)]
 simp only [Option.bind_some]
 have := twin_loop w.Tries h2 (fun i hi => (h.try_ i hi).1) 6 0 (w.Tries.length + 1) rfl (by omega)
 rw [show ((0 : Nat) : Int) = 0 from rfl] at this
 rw [this]
 rfl
theorem tell_loop (w : TWorld) (m : TMail) (h6 : w.Members.length <= 6) : ∀ (k n fu : Nat) (l : List TMail) (j : Int), n + k = w.Members.length -> k < fu -> l.length + k < 1000000 -> zaq ⟨w⟩ m fu l j (n : Int) = some ⟨{ w with Mail := l ++ ((w.Members.drop n).filter fun to => decide (to ≠ m.From)).map fun to => { m with To := to } }⟩ := by
 intro k
 induction k with
 | zero =>
  intro n fu l j hn hf _
  obtain ⟨f, rfl⟩ : ∃ f, fu = f + 1 := ⟨fu - 1, by omega⟩
  rw [zaq, if_neg (by dsimp only; omega), List.drop_eq_nil_of_le (by omega)]
  simp
 | succ k ih =>
  intro n fu l j hn hf hl
  obtain ⟨f, rfl⟩ : ∃ f, fu = f + 1 := ⟨fu - 1, by omega⟩
  have hlt : n < w.Members.length := by omega
  have hd := List.drop_eq_getElem_cons hlt
  have hg : w.Members.getD n default = w.Members[n] := by
   rw [List.getD_eq_getElem?_getD, List.getElem?_eq_getElem hlt]
   rfl
  rw [zaq, if_pos (by dsimp only; omega), if_pos (by dsimp only; omega)]
  simp only [Int.toNat_natCast]
  rw [hg, hd, wr64 _ (by omega), show (n : Int) + 1 = ((n + 1 : Nat) : Int) from rfl]
  by_cases he : w.Members[n] = m.From
  ·rw [if_neg (by simpa using he)]
   simp only [Option.bind_some]
   rw [ih (n + 1) f l _ (by omega) (by omega) (by omega)]
   simp [he]
  ·rw [if_pos he, if_pos (by simp; omega)]
   simp only [Option.bind_some]
   rw [ih (n + 1) f _ _ (by omega) (by omega) (by simp; omega), List.filter_cons, if_pos (by simpa using he), List.map_cons, List.append_assoc]
   rfl
theorem tell_eq (w : TWorld) (m : TMail) (h6 : w.Members.length <= 6) (hl : w.Mail.length <= 2000) : zcb ⟨w⟩ m = some ⟨tellS w m⟩ := by
 rw [zcb]
 have := tell_loop w m h6 w.Members.length 0 (w.Members.length + 1) w.Mail m.To (by omega) (by omega) (by omega)
 rw [show ((0 : Nat) : Int) = 0 from rfl] at this
 exact this
theorem taken_eq (w : TWorld) (n b q : Int) (hn : 0 <= n /\ n < 6) (ht : w.Tries.length = 6) (hc : w.Chosen.length <= 2000) (hl : (trW w n).Promises.length < 1000000) : zbh ⟨w⟩ n b q = some ⟨takenW w n b q⟩ := by
 rw [zbh, if_pos (by dsimp only; omega)]
 obtain ⟨r, hr, h1, h2⟩ := accepted_eq (trW w n) b q hl
 show Option.bind (zc2 (trW w n) b q) _ = _
 rw [hr]
 simp only [Option.bind_some]
 unfold takenW
 by_cases h0 : r.2 = 0
 ·rw [if_neg (by simpa using h0), if_pos (h1.1 h0), h2 h0, if_pos (by intro _; omega)]
  by_cases h3 : (zao (trW w n) q).Phase = 3 /\ ¬ (trW w n).Phase = 3
  ·rw [if_pos h3, if_pos (by simp; omega), if_pos (show _ /\ _ ≠ _ from h3)]
   simp only [Option.bind_some]
   rw [if_pos (by omega)]
  ·rw [if_neg h3, if_neg (show ¬ (_ /\ _ ≠ _) from h3)]
   simp only [Option.bind_some]
   rw [if_pos (by omega)]
 ·rw [if_pos h0, if_neg (fun h => h0 (h1.2 h))]
theorem ownVote_eq (w : TWorld) (n b : Int) (v : List UInt8) (hn : 0 <= n /\ n < 6) (hvt : w.Votes.length = 6) (ht : w.Tries.length = 6) (hc : w.Chosen.length <= 2000) (hl : (trW w n).Promises.length < 1000000) :
  (Option.bind (m_quorum_Has w.Members n) fun v3 =>
 if ¬ (v3 = true) then
 some (⟨w⟩ : Tdecree_world)
 else
 if (0 <= n /\ n < (w.Votes.length : Int)) then
 Option.bind (m_vote_Accept (w.Votes.getD n.toNat default) b v) fun v4 =>
 if v4.2 = 0 then
 if (0 <= n /\ n < (w.Votes.length : Int)) then
 Option.bind (zbh (⟨(⟨w.Members, (w.Votes.set n.toNat v4.1), w.Tries, w.Mail, w.Chosen⟩ : TWorld)⟩ : Tdecree_world) n b n) fun v5 =>
 some v5
 else none
 else
 some (⟨w⟩ : Tdecree_world)
 else none) = some ⟨ownVote w n b v⟩ := by
 rw [has_eq]
 simp only [Option.bind_some]
 unfold ownVote
 by_cases hm : n ∈ w.Members
 ·rw [if_neg (by simpa using hm), if_pos (by omega)]
  obtain ⟨r, hr, h1, h2⟩ := accept_eq (vtW w n) b v
  rw [hr]
  simp only [Option.bind_some]
  by_cases h0 : r.2 = 0
  ·rw [if_pos h0, if_pos (by omega), if_pos ⟨hm, h1.1 h0⟩, h2 h0, taken_eq { w with Votes := w.Votes.set n.toNat ⟨b, b, v⟩ } n b n hn ht hc hl]
   rfl
  ·rw [if_neg h0, if_neg (fun h => h0 (h1.2 h.2))]
 ·rw [if_pos (by simpa using hm), if_neg (fun h => hm h.1)]
end Go.Proofs
end
section
namespace Go.Proofs
open Go.Tm
set_option linter.unusedSimpArgs false
structure Shape (w : TWorld) (k : Nat) : Prop where
 mem : w.Members.length <= 6
 vts : w.Votes.length = 6
 trs : w.Tries.length = 6
 mail : w.Mail.length <= k
 ch : w.Chosen.length <= 1000
theorem getD_set_same {α : Type} (l : List α) (n : Nat) (a d : α) (h : n < l.length) : (l.set n a).getD n d = a := by
 simp [List.getD, h]
theorem tellS_len (w : TWorld) (m : TMail) : (tellS w m).Mail.length <= w.Mail.length + w.Members.length := by
 unfold tellS
 simp only [List.length_append, List.length_map]
 have := List.length_filter_le (fun to => decide (to ≠ m.From)) w.Members
 omega
theorem promW_eq (w : TWorld) (n b : Int) (p : TPromise) (hn : 0 <= n /\ n < 6) (h : Shape w 1500) (hl : (trW w n).Promises.length < 1000000) : zbe ⟨w⟩ n b p = some ⟨promisedW w n b p⟩ := by
 have ht := h.trs
 rw [zbe, if_pos (by dsimp only; omega)]
 obtain ⟨r, hr, h1, h2⟩ := promised_eq (trW w n) b p hl
 show Option.bind (zc1 (trW w n) b p) _ = _
 rw [hr]
 simp only [Option.bind_some]
 unfold promisedW
 by_cases h0 : r.2 = 0
 ·have hc := h1.1 h0
  rw [if_neg (by simpa using h0), if_pos (by omega), if_pos hc, h2 h0]
  by_cases h3 : (za9 (trW w n) p).Phase = 1
  ·rw [if_pos h3, if_pos h3]
  ·rw [if_neg h3, if_neg h3]
   have e := tell_eq { w with Tries := w.Tries.set n.toNat (za9 (trW w n) p) } ⟨n, 0, 3, 0, 0, b, 0, (za9 (trW w n) p).Value, 0, 0⟩ h.mem (by have := h.mail; show w.Mail.length <= 2000; omega)
   rw [e]
   simp only [Option.bind_some]
   have hv := promised_kept (a := trW w n) (p := p) ⟨hc.1, hc.2.1, rfl, hc.2.2.2.1, hc.2.2.1 ▸ hc.2.2.2.2⟩
   have e2 := ownVote_eq (tellS { w with Tries := w.Tries.set n.toNat (za9 (trW w n) p) } ⟨n, 0, 3, 0, 0, b, 0, (za9 (trW w n) p).Value, 0, 0⟩) n b (za9 (trW w n) p).Value hn h.vts (by show (w.Tries.set n.toNat _).length = 6; simpa using h.trs) (by have := h.ch; show w.Chosen.length <= 2000; omega) (by
    show ((w.Tries.set n.toNat (za9 (trW w n) p)).getD n.toNat default).Promises.length < 1000000
    rw [getD_set_same _ _ _ _ (by omega)]
    have := hv.len.2.1
    omega)
   exact e2
 ·rw [if_pos h0, if_neg (fun k => h0 (h1.2 k))]
theorem comeW_eq (w : TWorld) (m : TMail) (hm : MOk m) (h : Shape w 1000) (hl : ∀ t ∈ w.Tries, t.Promises.length < 1000000) : m_decree_world_come ⟨w⟩ m = some ⟨comeW w m⟩ := by
 obtain ⟨_, hto, hk1, hk2, _⟩ := hm
 have hv := h.vts
 have ht := h.trs
 have hc := h.ch
 have hml := h.mail
 have hlt : (trW w m.To).Promises.length < 1000000 := by
  have h1 : m.To.toNat < w.Tries.length := by omega
  have h2 : w.Tries.getD m.To.toNat default = w.Tries[m.To.toNat] := by
   rw [List.getD_eq_getElem?_getD, List.getElem?_eq_getElem h1]
   rfl
  show (w.Tries.getD m.To.toNat default).Promises.length < 1000000
  rw [h2]
  exact hl _ (List.getElem_mem h1)
 rw [m_decree_world_come, if_pos (by dsimp only; omega)]
 unfold comeW
 by_cases c2 : m.Kind = 2
 ·rw [if_pos c2, if_pos c2, promW_eq w m.To m.Ballot _ hto ⟨h.mem, hv, ht, by omega, hc⟩ hlt]
  rfl
 rw [if_neg c2, if_neg c2]
 by_cases c4 : m.Kind = 4
 ·rw [if_pos c4, if_pos c4, taken_eq w m.To m.Ballot m.From hto ht (by omega) hlt]
  rfl
 rw [if_neg c4, if_neg c4]
 by_cases c5 : m.Kind = 5
 ·rw [if_pos c5, if_pos c5]
  rfl
 rw [if_neg c5, if_neg c5]
 by_cases c1 : m.Kind = 1
 ·rw [if_pos c1, if_pos c1]
  obtain ⟨r, hr, h1, h2⟩ := prepare_eq (vtW w m.To) m.Ballot
  show Option.bind (Option.bind (m_vote_Prepare (vtW w m.To) m.Ballot) _) _ = _
  rw [hr]
  simp only [Option.bind_some]
  by_cases h0 : r.2 = 0
  ·rw [if_pos (h1.1 h0), h2 h0, if_neg (by simpa using h0), if_pos (by omega)]
   simp only [Option.bind_some]
   rw [if_pos (by simp; omega)]
   rfl
  ·rw [if_neg (fun k => h0 (h1.2 k)), if_pos h0, if_pos (by omega)]
   simp only [Option.bind_some]
   rw [if_pos (by simp; omega)]
   rfl
 ·have c3 : m.Kind = 3 := by omega
  rw [if_neg c1, if_neg c1, if_pos c3]
  obtain ⟨r, hr, h1, h2⟩ := accept_eq (vtW w m.To) m.Ballot m.Value
  show Option.bind (Option.bind (m_vote_Accept (vtW w m.To) m.Ballot m.Value) _) _ = _
  rw [hr]
  simp only [Option.bind_some]
  by_cases h0 : r.2 = 0
  ·rw [if_pos (h1.1 h0), h2 h0, if_neg (by simpa using h0), if_pos (by omega)]
   simp only [Option.bind_some]
   rw [if_pos (by simp; omega)]
   rfl
  ·rw [if_neg (fun k => h0 (h1.2 k)), if_pos h0, if_pos (by omega)]
   simp only [Option.bind_some]
   rw [if_pos (by simp; omega)]
   rfl
end Go.Proofs
end
section
namespace Go.Proofs
open Go.Tm
set_option linter.unusedSimpArgs false
theorem QOk.nodes {l : List Int} (h : QOk l) : ∀ x ∈ l, 0 <= x /\ x < 6 := fun x hx => by have := rises_lt l (-1) h.2.1 x hx; omega
theorem Valid.value {a : TAttempt} (h : Valid a) : a.Value.length <= 1024 /\ a.Wish.length <= 1024 := by
 by_cases h0 : a.Phase = 0
 ·unfold Valid at h
  rw [if_pos h0] at h
  subst h
  simp
 ·have k := h.kept h0
  refine ⟨?_, k.wish⟩
  rcases k.value with h1 | h1
  ·unfold Valid at h
   rw [if_neg h0] at h
   rcases h.1 with h2 | h2 | h2
   ·rw [h2.2.1]; simp
   ·omega
   ·omega
  ·rw [h1]
   obtain ⟨p, _, _, h4⟩ := best_spec a.Promises a.Wish 0
   rcases h4 with ⟨_, h4⟩ | ⟨h5, q, hq, h6, h7⟩
   ·rw [h4]; exact k.wish
   ·rw [h7]
    have := k.may q hq
    unfold MayS at this
    rw [if_neg (by omega)] at this
    exact this.2.2
structure WG (w : TWorld) : Prop where
 mem : QOk w.Members
 vts : w.Votes.length = 6
 trs : w.Tries.length = 6
 vote : ∀ i : Nat, i < 6 -> VOk (w.Votes.getD i default) /\ 0 <= (w.Votes.getD i default).Promised /\ 0 <= (w.Votes.getD i default).Ballot
 try_ : ∀ i : Nat, i < 6 -> Valid (w.Tries.getD i default) /\ ((w.Tries.getD i default).Phase ≠ 0 -> ownB (w.Tries.getD i default).Ballot = i /\ (w.Tries.getD i default).Members = w.Members)
 mails : ∀ m ∈ w.Mail, MOk m
 chs : ∀ c ∈ w.Chosen, (0 <= c.Node /\ c.Node < 6) /\ c.Value.length <= 1024
theorem WG.ok {w : TWorld} (h : WG w) (h1 : w.Mail.length <= 1000) (h2 : w.Chosen.length <= 1000) : WOk w :=
 ⟨h.mem, h.vts, h.trs, h1, h2, fun i hi => (h.vote i hi).1, h.try_, h.mails, h.chs⟩
theorem getD_set_ne {α : Type} (l : List α) (n i : Nat) (a d : α) (h : i ≠ n) : (l.set n a).getD i d = l.getD i d := by
 simp [List.getD, List.getElem?_set_ne (Ne.symm h)]
theorem WG.setVote {w : TWorld} (h : WG w) (n : Nat) (v : TVote) (hv : VOk v) (h1 : 0 <= v.Promised) (h2 : 0 <= v.Ballot) : WG { w with Votes := w.Votes.set n v } where
 mem := h.mem
 vts := by simpa using h.vts
 trs := h.trs
 vote i hi := by
  have hl := h.vts
  by_cases e : i = n
  ·subst e
   show VOk ((w.Votes.set i v).getD i default) /\ 0 <= ((w.Votes.set i v).getD i default).Promised /\ 0 <= ((w.Votes.set i v).getD i default).Ballot
   rw [getD_set_same _ _ _ _ (by omega)]
   exact ⟨hv, h1, h2⟩
  ·show VOk ((w.Votes.set n v).getD i default) /\ 0 <= ((w.Votes.set n v).getD i default).Promised /\ 0 <= ((w.Votes.set n v).getD i default).Ballot
   rw [getD_set_ne _ _ _ _ _ e]
   exact h.vote i hi
 try_ := h.try_
 mails := h.mails
 chs := h.chs
theorem WG.setTry {w : TWorld} (h : WG w) (n : Nat) (a : TAttempt) (hv : Valid a) (h1 : a.Phase ≠ 0 -> ownB a.Ballot = n /\ a.Members = w.Members) : WG { w with Tries := w.Tries.set n a } where
 mem := h.mem
 vts := h.vts
 trs := by simpa using h.trs
 vote := h.vote
 try_ i hi := by
  have hl := h.trs
  by_cases e : i = n
  ·subst e
   show Valid ((w.Tries.set i a).getD i default) /\ (((w.Tries.set i a).getD i default).Phase ≠ 0 -> ownB ((w.Tries.set i a).getD i default).Ballot = i /\ ((w.Tries.set i a).getD i default).Members = w.Members)
   rw [getD_set_same _ _ _ _ (by omega)]
   exact ⟨hv, h1⟩
  ·show Valid ((w.Tries.set n a).getD i default) /\ (((w.Tries.set n a).getD i default).Phase ≠ 0 -> ownB ((w.Tries.set n a).getD i default).Ballot = i /\ ((w.Tries.set n a).getD i default).Members = w.Members)
   rw [getD_set_ne _ _ _ _ _ e]
   exact h.try_ i hi
 mails := h.mails
 chs := h.chs
theorem WG.setMail {w : TWorld} (h : WG w) (M : List TMail) (hM : ∀ m ∈ M, m ∈ w.Mail \/ MOk m) : WG { w with Mail := M } :=
 ⟨h.mem, h.vts, h.trs, h.vote, h.try_, fun m hm => (hM m hm).elim (h.mails m) id, h.chs⟩
theorem WG.tell {w : TWorld} (h : WG w) (m : TMail) (h1 : 0 <= m.From /\ m.From < 6) (h2 : 1 <= m.Kind /\ m.Kind <= 5) (h3 : BOk m.Ballot) (h4 : 0 <= m.Prior) (h5 : m.Value.length <= 1024) (h6 : m.Group = 0 /\ m.Slot = 0 /\ m.Id = 0 /\ m.Time = 0) : WG (tellS w m) := by
 refine h.setMail _ fun k hk => ?_
 rcases List.mem_append.1 hk with hk | hk
 ·exact .inl hk
 ·obtain ⟨to, hto, rfl⟩ := List.mem_map.1 hk
  have := h.mem.nodes to (List.mem_filter.1 hto).1
  exact .inr ⟨h1, this, h2.1, h2.2, h3, h4, h5, h6.1, h6.2.1, h6.2.2.1, h6.2.2.2⟩
theorem WG.taken {w : TWorld} (h : WG w) (n b q : Int) (hn : 0 <= n /\ n < 6) : WG (takenW w n b q) := by
 unfold takenW
 split
 case isFalse => exact h
 rename_i hc
 have hk := accepted_kept (a := trW w n) (n := q) ⟨hc.1, hc.2.1, rfl, hc.2.2.2⟩
 have ht := (h.try_ n.toNat (by omega)).2 (by have := hc.2.1; show (trW w n).Phase ≠ 0; omega)
 have h2 := h.setTry n.toNat (zao (trW w n) q) hk.1 fun _ => ht
 refine ⟨h2.mem, h2.vts, h2.trs, h2.vote, h2.try_, h2.mails, fun c hcm => ?_⟩
 have hcm : c ∈ (if (zao (trW w n) q).Phase = 3 /\ (trW w n).Phase ≠ 3 then w.Chosen ++ [⟨n, (zao (trW w n) q).Value⟩] else w.Chosen) := hcm
 split at hcm
 ·rcases List.mem_append.1 hcm with hcm | hcm
  ·exact h.chs c hcm
  ·rw [List.mem_singleton] at hcm
   subst hcm
   exact ⟨hn, hk.1.value.1⟩
 ·exact h.chs c hcm
theorem VOk.acc {b : Int} {v : List UInt8} (hb : BOk b) (hv : v.length <= 1024) (h0 : 0 < b) : VOk ⟨b, b, v⟩ := by
 refine ⟨.inr hb, ?_⟩
 show if b = 0 then _ else _
 rw [if_neg (by omega)]
 exact ⟨hb, Int.le_refl _, hv⟩
theorem VOk.prep {v : TVote} (h : VOk v) {b : Int} (hb : BOk b) (hle : v.Promised <= b) : VOk { v with Promised := b } := by
 refine ⟨.inr hb, ?_⟩
 have := h.2
 show if v.Ballot = 0 then v.Value = [] else BOk v.Ballot /\ v.Ballot <= b /\ v.Value.length <= 1024
 split
 ·rename_i h0; rw [if_pos h0] at this; exact this
 ·rename_i h0; rw [if_neg h0] at this; exact ⟨this.1, by omega, this.2.2⟩
theorem VOk.value {v : TVote} (h : VOk v) : v.Value.length <= 1024 := by
 have := h.2
 split at this
 ·rw [this]; simp
 ·exact this.2.2
theorem BOk.ne {b : Int} (h : BOk b) : b ≠ 0 := by
 rintro rfl
 exact h.1 (.inl (by decide +kernel))
theorem WG.ownVote {w : TWorld} (h : WG w) (n b : Int) (v : List UInt8) (hn : 0 <= n /\ n < 6) : WG (ownVote w n b v) := by
 unfold Go.Proofs.ownVote
 split
 case isFalse => exact h
 rename_i hc
 have h1 : 0 <= (vtW w n).Promised := (h.vote n.toNat (by omega)).2.1
 have hb := hc.2.2.1.ne
 have hle := hc.2.2.2.2
 exact (h.setVote n.toNat ⟨b, b, v⟩ (VOk.acc hc.2.2.1 hc.2.2.2.1 (by omega)) (by show 0 <= b; omega) (by show 0 <= b; omega)).taken n b n hn
theorem WG.promised {w : TWorld} (h : WG w) (n b : Int) (p : TPromise) (hn : 0 <= n /\ n < 6) : WG (promisedW w n b p) := by
 unfold promisedW
 split
 case isFalse => exact h
 rename_i hc
 have hk := promised_kept (a := trW w n) (p := p) ⟨hc.1, hc.2.1, rfl, hc.2.2.2.1, hc.2.2.1 ▸ hc.2.2.2.2⟩
 obtain ⟨e1, e2, _, _⟩ := promisedS_same (trW w n) p
 have ht := (h.try_ n.toNat (by omega)).2 (by have := hc.2.1; show (trW w n).Phase ≠ 0; omega)
 have h2 := h.setTry n.toNat (za9 (trW w n) p) hk fun _ => ⟨e1 ▸ ht.1, e2.trans ht.2⟩
 split
 ·exact h2
 ·have hkb : BOk b := hc.2.2.1 ▸ (hc.1.kept (by have := hc.2.1; omega)).ballot
  exact (h2.tell ⟨n, 0, 3, 0, 0, b, 0, (za9 (trW w n) p).Value, 0, 0⟩ hn ⟨by simp, by simp⟩ hkb (by simp) hk.value.1 ⟨rfl, rfl, rfl, rfl⟩).ownVote n b _ hn
theorem WG.begin_ {w : TWorld} (h : WG w) (n b : Int) (t : List UInt8) (hn : 0 <= n /\ n < 6) (ha : AskedS (vtW w n) b []) (ht : t.length <= 1024) (hb : 8 <= b) (ho : ownB b = n.toNat) : WG (beginW w n b t) := by
 unfold beginW
 have hv := h.vote n.toNat (by omega)
 have h1 := h.setVote n.toNat { vtW w n with Promised := b } (ha.1.prep ha.2.1 ha.2.2.2) (by show 0 <= b; omega) hv.2.2
 have hbv : Valid ⟨1, b, w.Members, t, [], [], []⟩ := by
  unfold Valid
  rw [if_neg (by simp)]
  exact ⟨.inl ⟨rfl, rfl, rfl⟩, ⟨ha.2.1, h.mem, ht, rfl, rfl, (fun p hp => by cases hp), by simpa using most_nil w.Members, by simpa using most_nil w.Members, .inl rfl⟩⟩
 have h2 := h1.setTry n.toNat ⟨1, b, w.Members, t, [], [], []⟩ hbv fun _ => ⟨ho, rfl⟩
 exact (h2.tell ⟨n, 0, 1, 0, 0, b, 0, [], 0, 0⟩ hn ⟨by simp, by simp⟩ ha.2.1 (by simp) (by simp) ⟨rfl, rfl, rfl, rfl⟩).promised n b _ hn
theorem WG.come {w : TWorld} (h : WG w) (m : TMail) (hm : MOk m) : WG (comeW w m) := by
 obtain ⟨hf, hto, hk1, hk2, hb, hp, hval, _⟩ := hm
 have hv := h.vote m.To.toNat (by omega)
 have hadd : ∀ (w2 : TWorld) (k : TMail), WG w2 -> MOk k -> WG (addMail w2 k) := by
  intro w2 k h2 hk
  refine h2.setMail _ fun x hx => ?_
  rcases List.mem_append.1 hx with hx | hx
  ·exact .inl hx
  ·rw [List.mem_singleton] at hx
   subst hx
   exact .inr hk
 have href : MOk ⟨m.To, m.From, 5, 0, 0, m.Ballot, (vtW w m.To).Promised, [], 0, 0⟩ := ⟨hto, hf, by simp, by simp, hb, hv.2.1, by simp, rfl, rfl, rfl, rfl⟩
 unfold comeW
 split
 ·exact h.promised _ _ _ hto
 split
 ·exact h.taken _ _ _ hto
 split
 ·exact h
 split
 ·split
  ·rename_i hc
   have h1 := h.setVote m.To.toNat { vtW w m.To with Promised := m.Ballot } (hc.1.prep hc.2.1 hc.2.2.2) (by have := hc.2.2.2; have := hv.2.1; show 0 <= m.Ballot; exact Int.le_trans hv.2.1 hc.2.2.2) hv.2.2
   exact hadd _ _ h1 ⟨hto, hf, by simp, by simp, hb, hv.2.2, hv.1.value, rfl, rfl, rfl, rfl⟩
  ·exact hadd _ _ h href
 split
 ·rename_i hc
  have hle : 0 <= m.Ballot := Int.le_trans hv.2.1 hc.2.2.2
  have hne := hb.ne
  have h1 := h.setVote m.To.toNat ⟨m.Ballot, m.Ballot, m.Value⟩ (VOk.acc hb hval (by omega)) hle hle
  exact hadd _ _ h1 ⟨hto, hf, by simp, by simp, hb, by simp, by simp, rfl, rfl, rfl, rfl⟩
 ·exact hadd _ _ h href
end Go.Proofs
end
section
namespace Go.Proofs
open Go.Tm
set_option linter.unusedSimpArgs false
theorem WOk.shape {w : TWorld} (h : WOk w) : Shape w 1000 := ⟨h.mem.1, h.vts, h.trs, h.mail, h.ch⟩
end Go.Proofs
end
section
namespace Go.Proofs
open Go.Tm
set_option linter.unusedSimpArgs false
def newW (ms : List Int) : TWorld := ⟨ms, ((List.replicate 6 (⟨0, 0, []⟩ : TVote)).take 6), ((List.replicate 6 (⟨0, 0, [], [], [], [], []⟩ : TAttempt)).take 6), [], []⟩
theorem new_vote (ms : List Int) (i : Nat) : (newW ms).Votes.getD i default = ⟨0, 0, []⟩ := by
 match i with
 | 0 => rfl
 | 1 => rfl
 | 2 => rfl
 | 3 => rfl
 | 4 => rfl
 | 5 => rfl
 | i + 6 => rfl
theorem new_try (ms : List Int) (i : Nat) : (newW ms).Tries.getD i default = ⟨0, 0, [], [], [], [], []⟩ := by
 match i with
 | 0 => rfl
 | 1 => rfl
 | 2 => rfl
 | 3 => rfl
 | 4 => rfl
 | 5 => rfl
 | i + 6 => rfl
theorem new_good {ms : List Int} (h : QOk ms) : WG (newW ms) where
 mem := h
 vts := rfl
 trs := rfl
 vote i _ := by
  rw [new_vote]
  exact ⟨⟨.inl rfl, rfl⟩, Int.le_refl _, Int.le_refl _⟩
 try_ i _ := by
  rw [new_try]
  exact ⟨by unfold Valid; rw [if_pos rfl], fun h => absurd rfl h⟩
 mails m hm := by cases hm
 chs c hc := by cases hc
theorem long_eq : ∀ l : List TMove, ∃ b, m_w09_long l = some b := by
 intro l
 rw [m_w09_long]
 suffices h : ∃ z, m_w09_long_loop1 l = some z by
  obtain ⟨z, hz⟩ := h
  rw [hz]
  cases z <;> exact ⟨_, rfl⟩
 induction l with
 | nil => exact ⟨_, m_w09_long_loop1_n⟩
 | cons y l ih =>
  rw [m_w09_long_loop1_c]
  split
  ·exact ⟨_, rfl⟩
  ·exact ih
end Go.Proofs
end
section
namespace Go.Proofs
open Go.Tm
set_option linter.unusedSimpArgs false
end Go.Proofs
end
section
namespace Go.Proofs
open Go.Tm
set_option linter.unusedSimpArgs false
end Go.Proofs
end
section
namespace Go.Proofs
open Go.Tm
set_option linter.unusedSimpArgs false
end Go.Proofs
end
section
namespace Go.Proofs
open Go.Tm
set_option linter.unusedSimpArgs false
end Go.Proofs
end
section
namespace Go.Proofs
open Go.Tm
set_option linter.unusedSimpArgs false
end Go.Proofs
end
section
namespace Go.Proofs
open Go.Tm
set_option linter.unusedSimpArgs false
def preW (w : TWorld) (n b : Int) (t : List UInt8) : TWorld := tellS { w with Votes := w.Votes.set n.toNat { vtW w n with Promised := b }, Tries := w.Tries.set n.toNat ⟨1, b, w.Members, t, [], [], []⟩ } ⟨n, 0, 1, 0, 0, b, 0, [], 0, 0⟩
theorem begin_pre (w : TWorld) (n b : Int) (t : List UInt8) : beginW w n b t = promisedW (preW w n b t) n b ⟨n, (vtW w n).Ballot, (vtW w n).Value⟩ := rfl
theorem WG.pre {w : TWorld} (h : WG w) (n b : Int) (t : List UInt8) (hn : 0 <= n /\ n < 6) (ha : AskedS (vtW w n) b []) (ht : t.length <= 1024) (hb : 8 <= b) (ho : ownB b = n.toNat) : WG (preW w n b t) := by
 have hv := h.vote n.toNat (by omega)
 have h1 := h.setVote n.toNat { vtW w n with Promised := b } (ha.1.prep ha.2.1 ha.2.2.2) (by show 0 <= b; omega) hv.2.2
 have hbv : Valid ⟨1, b, w.Members, t, [], [], []⟩ := by
  unfold Valid
  rw [if_neg (by simp)]
  exact ⟨.inl ⟨rfl, rfl, rfl⟩, ⟨ha.2.1, h.mem, ht, rfl, rfl, (fun p hp => by cases hp), by simpa using most_nil w.Members, by simpa using most_nil w.Members, .inl rfl⟩⟩
 have h2 := h1.setTry n.toNat ⟨1, b, w.Members, t, [], [], []⟩ hbv fun _ => ⟨ho, rfl⟩
 exact h2.tell ⟨n, 0, 1, 0, 0, b, 0, [], 0, 0⟩ hn ⟨by simp, by simp⟩ ha.2.1 (by simp) (by simp) ⟨rfl, rfl, rfl, rfl⟩
theorem pre_try {w : TWorld} (h : WG w) (n b : Int) (t : List UInt8) (hn : 0 <= n /\ n < 6) : trW (preW w n b t) n = ⟨1, b, w.Members, t, [], [], []⟩ := by
 show (w.Tries.set n.toNat ⟨1, b, w.Members, t, [], [], []⟩).getD n.toNat default = _
 rw [getD_set_same _ _ _ _ (by rw [h.trs]; omega)]
end Go.Proofs
end
section
namespace Go.Proofs
open Go.Tm
set_option linter.unusedSimpArgs false
end Go.Proofs
end
section
namespace Go.Proofs
open Go.Tm
set_option linter.unusedSimpArgs false
theorem hasR_loop (v : Int) (l : List Int) : m_r06_Has_loop1 v l = some (if v ∈ l then .inl true else .inr ()) := by
 induction l with
 | nil => rfl
 | cons y l ih =>
  rw [m_r06_Has_loop1]
  by_cases h : y = v
  ·rw [if_pos h, if_pos (by rw [h]; exact List.mem_cons_self)]
  ·rw [if_neg h, ih]
   have : (v ∈ y :: l) ↔ v ∈ l := by simp [Ne.symm h]
   simp only [this]
theorem hasR_eq (l : List Int) (v : Int) : m_r06_Has l v = some (decide (v ∈ l)) := by
 rw [m_r06_Has, hasR_loop]
 by_cases h : v ∈ l <;> simp [h]
theorem hasI_iff (l : List Int) (v : Int) : hasI l v = decide (v ∈ l) := by
 rw [Bool.eq_iff_iff]; simp [hasI]
theorem within_loop (b : List Int) (l : List Int) : zbz b l = some (if withinI l b = true then .inr () else .inl false) := by
 induction l with
 | nil => rfl
 | cons y l ih =>
  rw [zbz, hasR_eq]
  simp only [Option.bind_some]
  have e : withinI (y :: l) b = (decide (y ∈ b) && withinI l b) := by simp [withinI, hasI_iff]
  rw [e, ih]
  by_cases h : y ∈ b <;> simp [h]
theorem within_eq (l b : List Int) : m_r06_Within l b = some (withinI l b) := by
 rw [m_r06_Within, within_loop]
 by_cases h : withinI l b = true <;> simp [h]
theorem qmay_loop (l : List Int) : ∀ (pre : List Int) (k : Int), (pre = [] /\ k = -1 \/ 0 <= k /\ pre.getLast? = some k) -> m_r06_May_loop1 (pre ++ l) l pre.length = some (if zbt k l = true then .inr () else .inl false) := by
 induction l with
 | nil => intro pre k _; simp [m_r06_May_loop1, zbt]
 | cons y l ih =>
  intro pre k hk
  rw [m_r06_May_loop1]
  have hc : (((y < 0) \/ (y >= 6)) \/ (((pre.length : Int) > 0) /\ (y <= ((pre ++ y :: l).getD (pre.length - 1) default)))) ↔ ¬ (k < y /\ y < 6) := by
   rcases hk with ⟨rfl, rfl⟩ | ⟨h0, hl⟩
   ·simp; omega
   ·have hne : pre ≠ [] := by rintro rfl; simp at hl
    have hp : 0 < pre.length := List.length_pos_iff.2 hne
    have hg : (pre ++ y :: l).getD (pre.length - 1) default = k := by
     rw [List.getD_eq_getElem?_getD, List.getElem?_append_left (by omega), <- List.getLast?_eq_getElem?, hl]; rfl
    rw [hg]; omega
  by_cases h : k < y /\ y < 6
  ·rw [if_neg (fun hh => hc.1 hh h)]
   have e : zbt k (y :: l) = zbt y l := by simp [zbt, h.1, h.2]
   have := ih (pre ++ [y]) y (.inr ⟨by rcases hk with ⟨_, rfl⟩ | ⟨h0, _⟩ <;> omega, by simp⟩)
   rw [List.append_assoc, List.singleton_append, List.length_append, List.length_singleton] at this
   rw [e]; exact this
  ·rw [if_pos (hc.2 h), if_neg]
   simp only [zbt, Bool.and_eq_true, decide_eq_true_eq]
   exact fun hh => h hh.1
theorem qmay_eq (l : List Int) : m_r06_May l = some (zbt (-1) l && decide (1 <= l.length) && decide (l.length <= 6)) := by
 rw [m_r06_May]
 have := qmay_loop l [] (-1) (.inl ⟨rfl, rfl⟩)
 rw [List.nil_append, List.length_nil] at this
 rw [this]
 by_cases h : zbt (-1) l = true
 ·simp only [h, if_true, Option.bind_some, Bool.true_and]
  congr 1
  have e1 : decide ((l.length : Int) >= 1) = decide (1 <= l.length) := decide_eq_decide.2 (by omega)
  have e2 : decide ((l.length : Int) <= 6) = decide (l.length <= 6) := decide_eq_decide.2 (by omega)
  rw [e1, e2]
 ·simp [h]
def R64 (x : Int) : Prop := -9223372036854775808 <= x /\ x <= 9223372036854775807
theorem td8 (b : Int) : (0 <= b /\ b.tdiv 8 = b / 8 /\ b.tmod 8 = b % 8) \/ (b < 0 /\ b.tdiv 8 = -((-b) / 8) /\ b.tmod 8 = -((-b) % 8)) := by
 rcases Int.lt_or_le b 0 with h | h
 ·right
  obtain ⟨c, rfl⟩ : ∃ c, b = -c := ⟨-b, by omega⟩
  refine ⟨h, ?_, ?_⟩
  ·rw [Int.neg_tdiv, Int.neg_neg, Int.tdiv_eq_ediv_of_nonneg (by omega)]
  ·rw [Int.neg_tmod, Int.neg_neg, Int.tmod_eq_emod_of_nonneg (by omega)]
 ·left
  exact ⟨h, Int.tdiv_eq_ediv_of_nonneg h, Int.tmod_eq_emod_of_nonneg h⟩
theorem bmay_eq (b : Int) (h : R64 b) : m_r05_May b = some (decide (BOk b)) := by
 rw [m_r05_May]
 congr 1
 have ht := td8 b
 have hw : wr .i64 (b.tdiv 8) = b.tdiv 8 := wr_eq _ _ (by show (-9223372036854775808 : Int) <= _; have := h.1; omega) (by show _ <= (9223372036854775807 : Int); have := h.2; omega)
 rw [Bool.eq_iff_iff]
 simp only [Bool.and_eq_true, decide_eq_true_eq]
 unfold BOk
 rw [hw]
 omega
theorem mayP_eq (p : TPromise) (b : Int) (h : R64 p.Ballot) : m_r08_MayPromise p b = some (decide (MayS p b)) := by
 rw [m_r08_MayPromise, bmay_eq _ h]
 unfold MayS
 by_cases h0 : p.Ballot = 0
 ·simp only [h0, if_true]
  congr 1
  rw [Bool.eq_iff_iff, beq_iff_eq, decide_eq_true_eq]
 ·simp only [h0, if_false, Option.bind_some]
  congr 1
  rw [Bool.eq_iff_iff]
  simp only [Bool.and_eq_true, decide_eq_true_eq]
  exact ⟨fun ⟨⟨x, y⟩, z⟩ => ⟨x, y, by omega⟩, fun ⟨x, y, z⟩ => ⟨⟨x, y⟩, by omega⟩⟩
theorem qmayS (l : List Int) : m_r06_May l = some (decide (QOk l)) := by
 rw [qmay_eq]
 congr 1
 rw [Bool.eq_iff_iff]
 simp only [Bool.and_eq_true, decide_eq_true_eq]
 unfold QOk
 have : 1 <= l.length ↔ l ≠ [] := by rw [<- List.length_pos_iff]; omega
 rw [this]
 constructor
 ·rintro ⟨⟨a, b⟩, c⟩; exact ⟨c, a, b⟩
 ·rintro ⟨a, b, c⟩; exact ⟨⟨b, c⟩, a⟩
def upS : Option Int -> List Int -> Bool
 | _, [] => true
 | k, y :: l => (match k with | none => true | some k => decide (k < y)) && upS (some y) l
theorem riseS_up (m : List Int) : ∀ (l : List Int) (k : Option Int), riseS m k l = (upS k l && withinI l m) := by
 intro l
 induction l with
 | nil => intro k; simp [riseS, upS, withinI]
 | cons y l ih =>
  intro k
  have e : withinI (y :: l) m = (decide (y ∈ m) && withinI l m) := by simp [withinI, hasI_iff]
  cases k with
  | none => simp only [riseS, upS, ih, e]; cases decide (y ∈ m) <;> cases upS (some y) l <;> cases withinI l m <;> rfl
  | some k => simp only [riseS, upS, ih, e]; cases decide (k < y) <;> cases decide (y ∈ m) <;> cases upS (some y) l <;> cases withinI l m <;> rfl
theorem risingR_loop (l : List Int) : ∀ (pre : List Int), zbn (pre ++ l) l pre.length = some (if upS pre.getLast? l = true then .inr () else .inl false) := by
 induction l with
 | nil => intro pre; simp [zbn, upS]
 | cons y l ih =>
  intro pre
  rw [zbn]
  have hi := ih (pre ++ [y])
  rw [List.append_assoc, List.singleton_append, List.length_append, List.length_singleton, List.getLast?_concat] at hi
  rcases List.eq_nil_or_concat pre with rfl | ⟨q, k, rfl⟩
  ·simp only [List.length_nil, List.getLast?_nil, upS, Bool.true_and]
   rw [if_neg (by simp)]
   simpa using hi
  ·rw [List.concat_eq_append] at *
   have hg : ((q ++ [k]) ++ y :: l).getD ((q ++ [k]).length - 1) default = k := by simp
   rw [hg]
   simp only [List.getLast?_append, List.getLast?_singleton, Option.some_or, upS]
   by_cases hk : k < y
   ·rw [if_neg (by simp; omega), hi]
    simp [hk]
   ·rw [if_pos ⟨by simp <;> omega, by omega⟩]
    simp [hk]
theorem risingR_eq (l m : List Int) : m_r08_rising l m = some (riseS m none l) := by
 have h := risingR_loop l []
 rw [List.nil_append, List.length_nil, List.getLast?_nil] at h
 rw [m_r08_rising, h, riseS_up, within_eq]
 by_cases hu : upS none l = true
 ·simp [hu]
 ·simp [hu]
theorem nodesR_loop (l : List TPromise) : ∀ acc : List Int, acc.length + l.length < 1000000 -> zbd l acc = some (acc ++ l.map TPromise.Node) := by
 induction l with
 | nil => intro acc _; simp [zbd]
 | cons y l ih =>
  intro acc h
  simp only [List.length_cons] at h
  rw [zbd, if_pos (by simp; omega), ih _ (by simp; omega)]
  simp
theorem nodesR_eq (l : List TPromise) (h : l.length < 1000000) : m_r08_nodes l = some (l.map TPromise.Node) := by
 rw [m_r08_nodes, nodesR_loop l [] (by simpa using h)]; rfl
theorem counts_loop (b : List Int) (l : List Int) : ∀ n : Nat, n + l.length < 1000000 -> zbo b l (n : Int) = some ((n + (l.filter (hasI b)).length : Nat) : Int) := by
 induction l with
 | nil => intro n _; simp [zbo]
 | cons y l ih =>
  intro n h
  simp only [List.length_cons] at h
  rw [zbo, hasR_eq]
  have hw : wr .i64 ((n : Int) + 1) = ((n + 1 : Nat) : Int) := wr_eq _ _ (by show (-9223372036854775808 : Int) <= _; omega) (by show _ <= (9223372036854775807 : Int); omega)
  by_cases hy : y ∈ b
  ·have hh : hasI b y = true := by rw [hasI_iff]; simpa using hy
   simp only [Option.bind_some, hy, decide_true, if_true, hw]
   rw [ih _ (by omega), List.filter_cons, if_pos hh]
   simp; omega
  ·have hh : hasI b y = false := by rw [hasI_iff]; simpa using hy
   simp only [Option.bind_some, hy, decide_false, Bool.false_eq_true, if_false]
   rw [ih _ (by omega), List.filter_cons, if_neg (by simp [hh])]
theorem counts_eq (m l : List Int) (hm : m.length < 1000000) : m_r06_Counts m l = some (mostS m l) := by
 have h := counts_loop l m 0 (by omega)
 rw [m_r06_Counts]
 rw [show ((0 : Nat) : Int) = 0 from rfl, Nat.zero_add] at h
 rw [h]
 simp only [Option.bind_some]
 congr 1
 have hw : wr .i64 (wr .i64 ((m.length : Int).tdiv 2) + 1) = ((m.length / 2 + 1 : Nat) : Int) := by
  have e1 : (m.length : Int).tdiv 2 = ((m.length / 2 : Nat) : Int) := by
   rw [Int.tdiv_eq_ediv_of_nonneg (by omega)]; omega
  rw [e1, wr_eq .i64 ((m.length / 2 : Nat) : Int) (by show (-9223372036854775808 : Int) <= _; omega) (by show _ <= (9223372036854775807 : Int); omega)]
  exact (wr_eq _ _ (by show (-9223372036854775808 : Int) <= _; omega) (by show _ <= (9223372036854775807 : Int); omega)).trans (by omega)
 rw [hw]
 rfl
theorem bestR_loop (l : List TPromise) : ∀ s n, m_r08_Best_loop1 l n s = some (bestS l s n) := by
 induction l with
 | nil => intro s n; rfl
 | cons y l ih =>
  intro s n
  rw [m_r08_Best_loop1, bestS]
  split <;> simp only [Option.bind_some] <;> exact ih _ _
theorem bestR_eq (l : List TPromise) (w : List UInt8) : m_r08_Best l w = some (bestS l w 0) := by
 rw [m_r08_Best, bestR_loop]; rfl
end Go.Proofs
end
section
namespace Go.Proofs
open Go.Tm
set_option linter.unusedSimpArgs false
theorem mayR_loop (a : TAttempt) (l : List TPromise) (h : ∀ p ∈ l, R64 p.Ballot) : m_r08_May_loop1 a l = some (if (∀ p ∈ l, MayS p a.Ballot) then .inr () else .inl false) := by
 induction l with
 | nil => simp [m_r08_May_loop1]
 | cons y l ih =>
  rw [m_r08_May_loop1, mayP_eq _ _ (h y List.mem_cons_self), ih fun p hp => h p (List.mem_cons_of_mem _ hp)]
  simp only [Option.bind_some]
  by_cases hy : MayS y a.Ballot
  ·by_cases hl : ∀ p ∈ l, MayS p a.Ballot
   ·have : ∀ p ∈ y :: l, MayS p a.Ballot := by
     intro p hp
     rcases List.mem_cons.1 hp with rfl | hp
     ·exact hy
     ·exact hl p hp
    rw [if_neg (by simp [hy]), if_pos hl, if_pos this]
   ·have : ¬ ∀ p ∈ y :: l, MayS p a.Ballot := fun hh => hl fun p hp => hh p (List.mem_cons_of_mem _ hp)
    rw [if_neg (by simp [hy]), if_neg hl, if_neg this]
  ·have : ¬ ∀ p ∈ y :: l, MayS p a.Ballot := fun hh => hy (hh y List.mem_cons_self)
   rw [if_pos (by simp [hy]), if_neg this]
structure Ranged (a : TAttempt) : Prop where
 phase : 0 <= a.Phase
 ballot : R64 a.Ballot
 proms : ∀ p ∈ a.Promises, R64 p.Ballot
 lp : a.Promises.length < 100000
 lm : a.Members.length < 100000
 la : a.Accepted.length < 100000
theorem mayR_eq (a : TAttempt) (h : Ranged a) : ∃ b, m_r08_May a = some b /\ (b = true ↔ Valid a) := by
 have lp := h.lp
 have lm := h.lm
 rw [m_r08_May]
 by_cases h0 : a.Phase = 0
 ·rw [if_pos h0]
  refine ⟨_, rfl, ?_⟩
  unfold Valid
  rw [if_pos h0]
  simp only [Bool.and_eq_true, beq_iff_eq]
  constructor
  ·rintro ⟨⟨⟨⟨⟨h1, h2⟩, h3⟩, h4⟩, h5⟩, h6⟩
   have e2 : a.Members = [] := List.eq_nil_of_length_eq_zero (by omega)
   have e5 : a.Promises = [] := List.eq_nil_of_length_eq_zero (by omega)
   have e6 : a.Accepted = [] := List.eq_nil_of_length_eq_zero (by omega)
   cases a
   simp_all
  ·intro e
   rw [e]
   simp
 ·rw [if_neg h0]
  have hv : Valid a ↔ ((a.Phase = 1 /\ a.Value = [] /\ a.Accepted = []) \/ a.Phase = 2 \/ a.Phase = 3) /\ Kept a := by unfold Valid; rw [if_neg h0]
  by_cases h3 : a.Phase > 3
  ·refine ⟨false, ?_, ?_⟩
   ·simp [h3]
   ·simp only [Bool.false_eq_true, false_iff, hv]
    rintro ⟨h1, _⟩
    rcases h1 with h1 | h1 | h1 <;> omega
  ·rw [bmay_eq _ h.ballot, qmayS, nodesR_eq _ (by omega)]
   by_cases c1 : BOk a.Ballot
   ·by_cases c2 : QOk a.Members
    ·by_cases c3 : (a.Wish.length : Int) > 1024
     ·refine ⟨false, by simp [h3, c1, c2, c3], ?_⟩
      simp only [Bool.false_eq_true, false_iff, hv]
      rintro ⟨_, k⟩
      have := k.wish
      omega
     ·by_cases c4 : riseS a.Members none (a.Promises.map TPromise.Node) = true
      ·by_cases c5 : riseS a.Members none a.Accepted = true
       ·simp only [h3, c1, c2, c3, risingR_eq, c4, c5, not_false_eq_true, if_true, Option.bind_some, decide_true, not_true_eq_false, or_self, if_false, counts_eq _ _ (show a.Members.length < 1000000 by omega), bestR_eq, mayR_loop a a.Promises h.proms]
        by_cases c6 : ∀ p ∈ a.Promises, MayS p a.Ballot
        ·simp only [if_pos c6, Option.bind_some]
         by_cases p1 : a.Phase = 1
         ·rw [if_pos p1]
          refine ⟨_, rfl, ?_⟩
          rw [hv, kept_iff]
          simp only [Bool.and_eq_true, Bool.not_eq_true', beq_iff_eq]
          constructor
          ·rintro ⟨⟨m1, m2⟩, m3⟩
           have e6 : a.Accepted = [] := List.eq_nil_of_length_eq_zero (by omega)
           exact ⟨.inl ⟨p1, m2, e6⟩, c1, c2, by omega, c4, c5, c6, by rw [m1, p1]; rfl, by rw [e6, most_nil, p1]; rfl, .inl p1⟩
          ·rintro ⟨k1, _, _, _, _, _, _, k2, _⟩
           rcases k1 with ⟨_, k1, k3⟩ | k1 | k1
           ·exact ⟨⟨by rw [k2, p1]; rfl, k1⟩, by rw [k3]; rfl⟩
           ·omega
           ·omega
         ·rw [if_neg p1]
          have hp : a.Phase = 2 \/ a.Phase = 3 := by have := h.phase; omega
          by_cases m8 : mostS a.Members (a.Promises.map TPromise.Node) = true
          ·by_cases m9 : a.Value = bestS a.Promises a.Wish 0
           ·refine ⟨mostS a.Members a.Accepted == (a.Phase == 3), ?_, ?_⟩
            ·simp only [m8, if_true, Option.bind_some, <- m9, and_self, beq_self_eq_true, Bool.true_and]
            ·rw [hv, kept_iff, beq_iff_eq]
             constructor
             ·intro k
              exact ⟨.inr hp, c1, c2, by omega, c4, c5, c6, by rw [m8]; symm; simp; omega, k, .inr m9⟩
             ·rintro ⟨_, _, _, _, _, _, _, _, k, _⟩; exact k
           ·refine ⟨false, ?_, ?_⟩
            ·simp [m8, m9]
            ·simp only [Bool.false_eq_true, false_iff, hv]
             rintro ⟨_, k⟩
             rcases k.value with k | k
             ·exact p1 k
             ·exact m9 k
          ·refine ⟨false, ?_, ?_⟩
           ·simp [m8]
           ·simp only [Bool.false_eq_true, false_iff, hv]
            rintro ⟨_, k⟩
            have := k.most
            rw [show decide (a.Phase > 1) = true by simp; omega] at this
            exact m8 this
        ·refine ⟨false, by simp only [if_neg c6, Option.bind_some], ?_⟩
         simp only [Bool.false_eq_true, false_iff, hv]
         rintro ⟨_, k⟩
         exact c6 k.may
       ·refine ⟨false, by simp [h3, c1, c2, c3, risingR_eq, c4, c5], ?_⟩
        simp only [Bool.false_eq_true, false_iff, hv]
        rintro ⟨_, k⟩
        exact c5 k.accepted
      ·refine ⟨false, by simp [h3, c1, c2, c3, risingR_eq, c4], ?_⟩
       simp only [Bool.false_eq_true, false_iff, hv]
       rintro ⟨_, k⟩
       exact c4 k.nodes
    ·refine ⟨false, by simp [h3, c1, c2], ?_⟩
     simp only [Bool.false_eq_true, false_iff, hv]
     rintro ⟨_, k⟩
     exact c2 k.members
   ·refine ⟨false, by simp [h3, c1], ?_⟩
    simp only [Bool.false_eq_true, false_iff, hv]
    rintro ⟨_, k⟩
    exact c1 k.ballot
end Go.Proofs
end
section
namespace Go.Proofs
open Go.Tm
set_option linter.unusedSimpArgs false
def zAtt : TAttempt := ⟨0, 0, [], [], [], [], []⟩
noncomputable def promA (a : TAttempt) (b : Int) (p : TPromise) : TAttempt × Int :=
 open Classical in
 if ¬ Valid a then (zAtt, 8) else if a.Phase ≠ 1 \/ b ≠ a.Ballot \/ p.Node ∉ a.Members then (zAtt, 6) else if ¬ MayS p b then (zAtt, 8) else (za9 a p, 0)
noncomputable def accA (a : TAttempt) (b n : Int) : TAttempt × Int :=
 open Classical in
 if ¬ Valid a then (zAtt, 8) else if a.Phase < 2 \/ b ≠ a.Ballot \/ n ∉ a.Members then (zAtt, 6) else (zao a n, 0)
theorem plc_loop {α : Type} [Inhabited α] (key : α -> Int) (v : Int) (l : List α) (hl : l.length < 1000000) (f : Nat -> Int -> Option Int)
  (hf : ∀ fu (n : Nat), n <= l.length -> f (fu + 1) (n : Int) = if n < l.length /\ key (l.getD n default) < v then f fu ((n + 1 : Nat) : Int) else some (n : Int)) :
  ∀ (fu n : Nat), l.length - n < fu -> n <= l.length -> f fu (n : Int) = some ((n + plc key v (l.drop n) : Nat) : Int) := by
 intro fu
 induction fu with
 | zero => intro n h; omega
 | succ fu ih =>
  intro n h hn
  rw [hf fu n hn]
  by_cases hlt : n < l.length
  ·have hg : l.getD n default = l[n] := by simp [List.getD, List.getElem?_eq_getElem hlt]
   rw [List.drop_eq_getElem_cons hlt, hg]
   by_cases hk : key l[n] < v
   ·rw [if_pos ⟨hlt, hk⟩, ih (n + 1) (by omega) (by omega), plc, if_pos hk]
    congr 2; omega
   ·rw [if_neg (fun hh => hk hh.2), plc, if_neg hk, Nat.add_zero]
  ·rw [if_neg (fun hh => hlt hh.1), List.drop_of_length_le (by omega)]; rfl
theorem wr1 (n : Nat) (h : n < 1000000) : wr .i64 ((n : Int) + 1) = ((n + 1 : Nat) : Int) := wr_eq _ _ (by show (-9223372036854775808 : Int) <= _; omega) (by show _ <= (9223372036854775807 : Int); omega)
theorem place_p (a : TAttempt) (p : TPromise) (hl : a.Promises.length < 1000000) : zb0 a p (a.Promises.length + 1) 0 = some (plc TPromise.Node p.Node a.Promises : Int) := by
 have := plc_loop TPromise.Node p.Node a.Promises hl (zb0 a p) (fun fu n hn => by
  rw [zb0, if_pos (fun h => ⟨by omega, h⟩), Int.toNat_natCast]
  by_cases hlt : n < a.Promises.length
  ·rw [wr1 n (by omega)]
   have : (n : Int) < (a.Promises.length : Int) := by omega
   simp only [this, hlt, true_and]
  ·have : ¬ (n : Int) < (a.Promises.length : Int) := by omega
   simp only [this, hlt, false_and, if_false]) (a.Promises.length + 1) 0 (by omega) (by omega)
 rw [List.drop_zero, Nat.zero_add] at this
 exact this
theorem place_a (a : TAttempt) (n : Int) (hl : a.Accepted.length < 1000000) : zb1 a n (a.Accepted.length + 1) 0 = some (plc (fun x : Int => x) n a.Accepted : Int) := by
 have := plc_loop (fun x : Int => x) n a.Accepted hl (zb1 a n) (fun fu k hn => by
  rw [zb1, if_pos (fun h => ⟨by omega, h⟩), Int.toNat_natCast]
  by_cases hlt : k < a.Accepted.length
  ·rw [wr1 k (by omega)]
   have : (k : Int) < (a.Accepted.length : Int) := by omega
   simp only [this, hlt, true_and]
  ·have : ¬ (k : Int) < (a.Accepted.length : Int) := by omega
   simp only [this, hlt, false_and, if_false]) (a.Accepted.length + 1) 0 (by omega) (by omega)
 rw [List.drop_zero, Nat.zero_add] at this
 exact this
theorem twinR_eq (a : TAttempt) (h1 : a.Members.length < 1000000) (h2 : a.Promises.length < 1000000) (h3 : a.Accepted.length < 1000000) : m_r08_Twin a = some a := by
 rw [m_r08_Twin, if_pos (by omega), if_pos (by omega), if_pos (by omega)]
theorem promR (a : TAttempt) (b : Int) (p : TPromise) (h : Ranged a) (hp : R64 p.Ballot) : m_r08_Promised a b p = some (promA a b p) := by
 obtain ⟨v, hm, hv⟩ := mayR_eq a h
 have := h.lp
 have := h.lm
 have := h.la
 rw [m_r08_Promised, hm]
 unfold promA
 simp only [Option.bind_some]
 by_cases hva : Valid a
 ·rw [if_neg (show ¬ ¬ Valid a from fun hh => hh hva), hv.2 hva, if_neg (show ¬ ¬ (true = true) by simp), hasR_eq, mayP_eq _ _ hp]
  by_cases k : (¬ (a.Phase = 1)) \/ (¬ (b = a.Ballot))
  ·rw [if_pos (show (a.Phase ≠ 1 \/ b ≠ a.Ballot \/ p.Node ∉ a.Members) from by rcases k with k | k; exact .inl k; exact .inr (.inl k))]
   simp [k, zAtt]
  ·have k1 : a.Phase = 1 := Classical.byContradiction fun hh => k (.inl hh)
   have k2 : b = a.Ballot := Classical.byContradiction fun hh => k (.inr hh)
   by_cases k3 : p.Node ∈ a.Members
   ·rw [if_neg (show ¬ (a.Phase ≠ 1 \/ b ≠ a.Ballot \/ p.Node ∉ a.Members) by rintro (hh | hh | hh); exact hh k1; exact hh k2; exact hh k3)]
    by_cases k4 : MayS p b
    ·rw [if_neg (show ¬ ¬ MayS p b by simpa using k4), twinR_eq a (by omega) (by omega) (by omega), nodesR_eq _ (by omega)]
     simp only [hasR_eq, k1, k2, k3, k4, decide_true, not_true_eq_false, or_self, if_false, not_false_eq_true, if_true, Option.bind_some]
     unfold za9
     rw [k2] at k4
     by_cases hin : p.Node ∈ a.Promises.map TPromise.Node
     ·rw [if_pos hin]
      simp [hin, k4]
     ·rw [if_neg hin]
      have hk := hva.kept (by omega)
      obtain ⟨l1, l2, l3⟩ := hk.lens
      have hle := plc_le TPromise.Node p.Node a.Promises
      have htake := ins_take TPromise.Node p a.Promises
      have hln := ins_len TPromise.Node p a.Promises
      rw [place_p a p (by omega)]
      simp only [hin, decide_false, Bool.false_eq_true, if_false, Option.bind_some, Int.toNat_natCast, k4, decide_true, not_true_eq_false]
      generalize plc TPromise.Node p.Node a.Promises = K at *
      have e1 : ((a.Promises.take K) ++ [p]) ++ (a.Promises.drop K) = insN p a.Promises := by rw [List.append_assoc]; exact htake
      rw [if_pos (by omega), if_pos (by simp; omega), if_pos (by simp; omega), if_pos (by omega), if_pos (by simp; omega), e1, nodesR_eq _ (by show (insK TPromise.Node p a.Promises).length < _; omega)]
      simp only [Option.bind_some, counts_eq _ _ (show a.Members.length < 1000000 by omega), bestR_eq]
      unfold withP
      cases hmm : mostS a.Members ((insN p a.Promises).map TPromise.Node) with
      | true => simp [k1]
      | false => simp [k1]
    ·rw [if_pos k4]
     rw [k2] at k4
     simp [k1, k2, k3, k4, zAtt]
   ·rw [if_pos (show (a.Phase ≠ 1 \/ b ≠ a.Ballot \/ p.Node ∉ a.Members) from .inr (.inr k3))]
    simp [k1, k2, k3, zAtt]
 ·have : v = false := by
   cases v with
   | true => exact absurd (hv.1 rfl) hva
   | false => rfl
  rw [if_pos hva, this]
  simp [zAtt]
theorem accR (a : TAttempt) (b n : Int) (h : Ranged a) : m_r08_Accepted a b n = some (accA a b n) := by
 obtain ⟨v, hm, hv⟩ := mayR_eq a h
 have := h.lp
 have := h.lm
 have := h.la
 rw [m_r08_Accepted, hm]
 unfold accA
 simp only [Option.bind_some]
 by_cases hva : Valid a
 ·rw [if_neg (show ¬ ¬ Valid a from fun hh => hh hva), hv.2 hva, if_neg (show ¬ ¬ (true = true) by simp), hasR_eq]
  by_cases k : (a.Phase < 2) \/ (¬ (b = a.Ballot))
  ·rw [if_pos (show (a.Phase < 2 \/ b ≠ a.Ballot \/ n ∉ a.Members) from by rcases k with k | k; exact .inl k; exact .inr (.inl k))]
   simp [k, zAtt]
  ·have k1 : ¬ a.Phase < 2 := fun hh => k (.inl hh)
   have k2 : b = a.Ballot := Classical.byContradiction fun hh => k (.inr hh)
   by_cases k3 : n ∈ a.Members
   ·rw [if_neg (show ¬ (a.Phase < 2 \/ b ≠ a.Ballot \/ n ∉ a.Members) by rintro (hh | hh | hh); exact k1 hh; exact hh k2; exact hh k3)]
    rw [twinR_eq a (by omega) (by omega) (by omega)]
    simp only [hasR_eq, k1, k2, k3, decide_true, not_true_eq_false, or_self, if_false, not_false_eq_true, if_true, Option.bind_some]
    have hk := hva.kept (by omega)
    obtain ⟨l1, l2, l3⟩ := hk.lens
    unfold zao
    by_cases hin : n ∈ a.Accepted
    ·-- taken already: the phase tells whether most accepted
     rw [if_pos hin]
     simp only [hin, decide_true, if_true]
     congr 1
     have hc := hk.chosen
     by_cases hm3 : mostS a.Members a.Accepted = true
     ·rw [hm3] at hc
      have h3 : a.Phase = 3 := by simpa using hc.symm
      rw [if_pos hm3]
      cases a
      simp_all
     ·rw [if_neg hm3]
    ·rw [if_neg hin]
     have hle := plc_le (fun x : Int => x) n a.Accepted
     have htake := ins_take (fun x : Int => x) n a.Accepted
     rw [place_a a n (by omega)]
     simp only [hin, decide_false, Bool.false_eq_true, if_false, Option.bind_some, Int.toNat_natCast]
     generalize plc (fun x : Int => x) n a.Accepted = K at *
     have e1 : ((a.Accepted.take K) ++ [n]) ++ (a.Accepted.drop K) = insI n a.Accepted := by rw [List.append_assoc]; exact htake
     rw [if_pos (by omega), if_pos (by simp; omega), if_pos (by simp; omega), if_pos (by omega), if_pos (by simp; omega), e1]
     simp only [Option.bind_some, counts_eq _ _ (show a.Members.length < 1000000 by omega)]
     cases hmm : mostS a.Members (insI n a.Accepted) with
     | true => simp
     | false => simp
   ·rw [if_pos (show (a.Phase < 2 \/ b ≠ a.Ballot \/ n ∉ a.Members) from .inr (.inr k3))]
    simp [k1, k2, k3, zAtt]
 ·have : v = false := by
   cases v with
   | true => exact absurd (hv.1 rfl) hva
   | false => rfl
  rw [if_pos hva, this]
  simp [zAtt]
end Go.Proofs
end
section
namespace Go.Proofs
open Go.Tm
set_option linter.unusedSimpArgs false
def In9 (x : Int) : Prop := 0 <= x /\ x <= 8388613
theorem In9.r {x : Int} (h : In9 x) : R64 x := by unfold R64; have := h.1; have := h.2; omega
theorem in9_0 : In9 0 := ⟨by decide, by decide⟩
structure RW (w : TWorld) : Prop where
 vote : ∀ i : Nat, i < 6 -> In9 (w.Votes.getD i default).Promised /\ In9 (w.Votes.getD i default).Ballot
 try_ : ∀ i : Nat, i < 6 -> In9 (w.Tries.getD i default).Ballot /\ ∀ p ∈ (w.Tries.getD i default).Promises, In9 p.Ballot
 mails : ∀ m ∈ w.Mail, In9 m.Ballot /\ In9 m.Prior
theorem RW.setVote {w : TWorld} (h : RW w) (hl : w.Votes.length = 6) (n : Nat) (v : TVote) (h1 : In9 v.Promised) (h2 : In9 v.Ballot) : RW { w with Votes := w.Votes.set n v } where
 vote i hi := by
  by_cases e : i = n
  ·subst e
   show In9 ((w.Votes.set i v).getD i default).Promised /\ In9 ((w.Votes.set i v).getD i default).Ballot
   rw [getD_set_same _ _ _ _ (by omega)]
   exact ⟨h1, h2⟩
  ·show In9 ((w.Votes.set n v).getD i default).Promised /\ In9 ((w.Votes.set n v).getD i default).Ballot
   rw [getD_set_ne _ _ _ _ _ e]
   exact h.vote i hi
 try_ := h.try_
 mails := h.mails
theorem RW.setTry {w : TWorld} (h : RW w) (hl : w.Tries.length = 6) (n : Nat) (a : TAttempt) (h1 : In9 a.Ballot) (h2 : ∀ p ∈ a.Promises, In9 p.Ballot) : RW { w with Tries := w.Tries.set n a } where
 vote := h.vote
 try_ i hi := by
  by_cases e : i = n
  ·subst e
   show In9 ((w.Tries.set i a).getD i default).Ballot /\ ∀ p ∈ ((w.Tries.set i a).getD i default).Promises, In9 p.Ballot
   rw [getD_set_same _ _ _ _ (by omega)]
   exact ⟨h1, h2⟩
  ·show In9 ((w.Tries.set n a).getD i default).Ballot /\ ∀ p ∈ ((w.Tries.set n a).getD i default).Promises, In9 p.Ballot
   rw [getD_set_ne _ _ _ _ _ e]
   exact h.try_ i hi
 mails := h.mails
theorem RW.setMail {w : TWorld} (h : RW w) (M : List TMail) (hM : ∀ m ∈ M, m ∈ w.Mail \/ (In9 m.Ballot /\ In9 m.Prior)) : RW { w with Mail := M } :=
 ⟨h.vote, h.try_, fun m hm => (hM m hm).elim (h.mails m) id⟩
theorem RW.tell {w : TWorld} (h : RW w) (m : TMail) (h1 : In9 m.Ballot) (h2 : In9 m.Prior) : RW (tellS w m) := by
 refine h.setMail _ fun k hk => ?_
 rcases List.mem_append.1 hk with hk | hk
 ·exact .inl hk
 ·obtain ⟨to, _, rfl⟩ := List.mem_map.1 hk
  exact .inr ⟨h1, h2⟩
theorem RW.taken {w : TWorld} (h : RW w) (hl : w.Tries.length = 6) (n b q : Int) (hn : 0 <= n /\ n < 6) : RW (takenW w n b q) := by
 unfold takenW
 split
 ·have k := h.try_ n.toNat (by omega)
  have := h.setTry hl n.toNat (zao (trW w n) q) k.1 k.2
  exact ⟨this.vote, this.try_, this.mails⟩
 ·exact h
theorem RW.own {w : TWorld} (h : RW w) (hv : w.Votes.length = 6) (hl : w.Tries.length = 6) (n b : Int) (v : List UInt8) (hn : 0 <= n /\ n < 6) (hb : In9 b) : RW (ownVote w n b v) := by
 unfold Go.Proofs.ownVote
 split
 ·exact (h.setVote hv n.toNat ⟨b, b, v⟩ hb hb).taken hl n b n hn
 ·exact h
theorem RW.promised {w : TWorld} (h : RW w) (hv : w.Votes.length = 6) (hl : w.Tries.length = 6) (n b : Int) (p : TPromise) (hn : 0 <= n /\ n < 6) (hb : In9 b) (hp : In9 p.Ballot) : RW (promisedW w n b p) := by
 unfold promisedW
 split
 case isFalse => exact h
 obtain ⟨e1, _, _, _⟩ := promisedS_same (trW w n) p
 have k := h.try_ n.toNat (by omega)
 have h2 := h.setTry hl n.toNat (za9 (trW w n) p) (e1 ▸ k.1) fun q hq => by
  rcases promisedS_in q hq with rfl | hq
  ·exact hp
  ·exact k.2 q hq
 split
 ·exact h2
 ·exact (h2.tell ⟨n, 0, 3, 0, 0, b, 0, (za9 (trW w n) p).Value, 0, 0⟩ hb in9_0).own hv (by show (w.Tries.set _ _).length = 6; simpa using hl) n b _ hn hb
theorem RW.pre {w : TWorld} (h : RW w) (hv : w.Votes.length = 6) (hl : w.Tries.length = 6) (n b : Int) (t : List UInt8) (hn : 0 <= n /\ n < 6) (hb : In9 b) : RW (preW w n b t) := by
 have k := h.vote n.toNat (by omega)
 have h1 := h.setVote hv n.toNat { vtW w n with Promised := b } hb k.2
 have h2 := h1.setTry hl n.toNat ⟨1, b, w.Members, t, [], [], []⟩ hb fun p hp => by cases hp
 exact h2.tell ⟨n, 0, 1, 0, 0, b, 0, [], 0, 0⟩ hb in9_0
theorem RW.begin_ {w : TWorld} (h : RW w) (hv : w.Votes.length = 6) (hl : w.Tries.length = 6) (n b : Int) (t : List UInt8) (hn : 0 <= n /\ n < 6) (hb : In9 b) : RW (beginW w n b t) := by
 rw [begin_pre]
 exact (h.pre hv hl n b t hn hb).promised (by show (w.Votes.set _ _).length = 6; simpa using hv) (by show (w.Tries.set _ _).length = 6; simpa using hl) n b _ hn hb (h.vote n.toNat (by omega)).2
theorem RW.come {w : TWorld} (h : RW w) (hv : w.Votes.length = 6) (hl : w.Tries.length = 6) (m : TMail) (hm : MOk m) (h1 : In9 m.Ballot) (h2 : In9 m.Prior) : RW (comeW w m) := by
 obtain ⟨_, hto, _⟩ := hm
 have k := h.vote m.To.toNat (by omega)
 have hadd : ∀ (w2 : TWorld) (q : TMail), RW w2 -> In9 q.Ballot -> In9 q.Prior -> RW (addMail w2 q) := by
  intro w2 q hw hb hp
  refine hw.setMail _ fun x hx => ?_
  rcases List.mem_append.1 hx with hx | hx
  ·exact .inl hx
  ·rw [List.mem_singleton] at hx
   subst hx
   exact .inr ⟨hb, hp⟩
 unfold comeW
 split
 ·exact h.promised hv hl _ _ _ hto h1 h2
 split
 ·exact h.taken hl _ _ _ hto
 split
 ·exact h
 split
 ·split
  ·exact hadd _ _ (h.setVote hv m.To.toNat { vtW w m.To with Promised := m.Ballot } h1 k.2) h1 k.2
  ·exact hadd _ _ h h1 k.1
 split
 ·exact hadd _ _ (h.setVote hv m.To.toNat ⟨m.Ballot, m.Ballot, m.Value⟩ h1 h1) h1 in9_0
 ·exact hadd _ _ h h1 k.1
theorem RW.ranged {w : TWorld} (h : RW w) (hg : WG w) (i : Nat) (hi : i < 6) : Ranged (w.Tries.getD i default) := by
 have k := h.try_ i hi
 have v := (hg.try_ i hi).1
 obtain ⟨l1, l2, l3⟩ := v.len
 refine ⟨?_, k.1.r, fun p hp => (k.2 p hp).r, by omega, by omega, by omega⟩
 unfold Valid at v
 split at v
 ·omega
 ·rcases v.1 with h1 | h1 | h1 <;> omega
theorem promisedS_phase' (a : TAttempt) (p : TPromise) (h : a.Phase = 1) : (za9 a p).Phase = 1 \/ (za9 a p).Phase = 2 := by
 unfold za9 withP
 split
 ·exact .inl h
 ·split
  ·exact .inr rfl
  ·exact .inl h
theorem new_rw (ms : List Int) : RW (newW ms) where
 vote i _ := by rw [new_vote]; exact ⟨in9_0, in9_0⟩
 try_ i _ := by rw [new_try]; exact ⟨in9_0, fun p hp => by cases hp⟩
 mails m hm := by cases hm
end Go.Proofs
end
section
namespace Go.Proofs
open Go.Tm
set_option linter.unusedSimpArgs false
theorem promA_can {a : TAttempt} {b : Int} {p : TPromise} (h : CanP a b p) : promA a b p = (za9 a p, 0) := by
 obtain ⟨h1, h2, h3, h4, h5⟩ := h
 unfold promA
 rw [if_neg (by simpa using h1), if_neg (by simp [h2, h3, h4]), if_neg (by simpa using h5)]
theorem promA_not {a : TAttempt} {b : Int} {p : TPromise} (h : ¬ CanP a b p) : (promA a b p).2 ≠ 0 := by
 unfold promA
 split
 ·simp
 ·rename_i h1
  split
  ·simp
  ·rename_i h2
   split
   ·simp
   ·rename_i h3
    simp only [not_or, Classical.not_not] at h1 h2 h3
    exact absurd ⟨h1, h2.1, h2.2.1, h2.2.2, h3⟩ h
theorem accA_can {a : TAttempt} {b n : Int} (h : CanA a b n) : accA a b n = (zao a n, 0) := by
 obtain ⟨h1, h2, h3, h4⟩ := h
 unfold accA
 rw [if_neg (by simpa using h1), if_neg (by simp [h3, h4]; omega)]
theorem accA_not {a : TAttempt} {b n : Int} (h : ¬ CanA a b n) : (accA a b n).2 ≠ 0 := by
 unfold accA
 split
 ·simp
 ·rename_i h1
  split
  ·simp
  ·rename_i h2
   simp only [not_or, Classical.not_not] at h1 h2
   exact absurd ⟨h1, by omega, h2.2.1, h2.2.2⟩ h
theorem may7 (v : TVote) (h1 : In9 v.Promised) (h2 : In9 v.Ballot) : m_r07_May v = some (decide (VOk v)) := by
 rw [m_r07_May, bmay_eq _ h1.r, bmay_eq _ h2.r]
 unfold VOk
 by_cases e1 : v.Promised = 0 <;> by_cases e2 : v.Ballot = 0 <;> by_cases e3 : BOk v.Promised <;> by_cases e4 : BOk v.Ballot <;> simp_all
 all_goals first | (by_cases h : v.Value = [] <;> simp [h]; done) | (by_cases h : v.Ballot <= v.Promised <;> by_cases h' : v.Value.length <= 1024 <;> simp [h, h'] <;> omega) | skip
theorem prep7 {v : TVote} {b : Int} (hv : VOk v) (h1 : In9 v.Promised) (h2 : In9 v.Ballot) (hb : BOk b) (hr : R64 b) : m_r07_Prepare v b = some (if b < v.Promised then ((⟨0, 0, []⟩ : TVote), 70) else (⟨b, v.Ballot, v.Value⟩, 0)) := by
 rw [m_r07_Prepare, m_r07_asked, may7 v h1 h2, bmay_eq _ hr]
 simp only [hv, hb, decide_true, Option.bind_some, not_true_eq_false, if_false]
 split <;> rfl
theorem acc7 {v : TVote} {b : Int} {t : List UInt8} (hv : VOk v) (h1 : In9 v.Promised) (h2 : In9 v.Ballot) (hb : BOk b) (hr : R64 b) (ht : t.length <= 1024) : m_r07_Accept v b t = some (if b < v.Promised then ((⟨0, 0, []⟩ : TVote), 70) else (⟨b, b, t⟩, 0)) := by
 rw [m_r07_Accept, m_r07_asked, may7 v h1 h2, bmay_eq _ hr]
 simp only [hv, hb, decide_true, Option.bind_some, not_true_eq_false, if_false]
 rw [if_neg (by omega)]
 split <;> rfl
theorem others_loop (w : TWorld) (m : TMail) (h6 : w.Members.length <= 6) : ∀ (k n fu : Nat) (l : List TMail) (j : Int), n + k = w.Members.length -> k < fu -> l.length + k < 1000000 -> zbm w m fu l j (n : Int) = some { w with Mail := l ++ ((w.Members.drop n).filter fun to => decide (to ≠ m.From)).map fun to => { m with To := to } } := by
 intro k
 induction k with
 | zero =>
  intro n fu l j hn hf _
  obtain ⟨f, rfl⟩ : ∃ f, fu = f + 1 := ⟨fu - 1, by omega⟩
  rw [zbm, if_neg (by omega), List.drop_eq_nil_of_le (by omega)]
  simp
 | succ k ih =>
  intro n fu l j hn hf hl
  obtain ⟨f, rfl⟩ : ∃ f, fu = f + 1 := ⟨fu - 1, by omega⟩
  have hlt : n < w.Members.length := by omega
  have hd := List.drop_eq_getElem_cons hlt
  have hg : w.Members.getD n default = w.Members[n] := by
   rw [List.getD_eq_getElem?_getD, List.getElem?_eq_getElem hlt]
   rfl
  rw [zbm, if_pos (by omega), if_pos (by omega)]
  simp only [Int.toNat_natCast]
  rw [hg, hd, wr64 _ (by omega), show (n : Int) + 1 = ((n + 1 : Nat) : Int) from rfl]
  by_cases he : w.Members[n] = m.From
  ·rw [if_neg (by simpa using he)]
   simp only [Option.bind_some]
   rw [ih (n + 1) f l _ (by omega) (by omega) (by omega)]
   simp [he]
  ·rw [if_pos he, if_pos (by omega), if_pos (by simp; omega)]
   simp only [Option.bind_some]
   rw [ih (n + 1) f _ _ (by omega) (by omega) (by simp; omega), List.filter_cons, if_pos (by simpa using he), List.map_cons, List.append_assoc]
   rfl
theorem others_eq (w : TWorld) (m : TMail) (h6 : w.Members.length <= 6) (hl : w.Mail.length <= 2000) : m_r09_others w m = some (tellS w m) := by
 rw [m_r09_others]
 have := others_loop w m h6 w.Members.length 0 (w.Members.length + 1) w.Mail m.To (by omega) (by omega) (by omega)
 rw [show ((0 : Nat) : Int) = 0 from rfl] at this
 exact this
theorem found_eq (w : TWorld) (n was : Int) (hn : 0 <= n /\ n < 6) (ht : w.Tries.length = 6) (hc : w.Chosen.length <= 2000) : m_r09_found w n was = some { w with Chosen := if (trW w n).Phase = 3 /\ was ≠ 3 then w.Chosen ++ [⟨n, (trW w n).Value⟩] else w.Chosen } := by
 rw [m_r09_found, if_pos (fun _ => by omega)]
 by_cases h : ¬ (was = 3) /\ (w.Tries.getD n.toNat default).Phase = 3
 ·rw [if_pos h, if_pos (by omega), if_pos (by simp; omega), if_pos ⟨h.2, h.1⟩]
 ·rw [if_neg h, if_neg (fun k => h ⟨k.2, k.1⟩)]
structure Sm (w : TWorld) : Prop where
 good : WG w
 rw9 : RW w
 mail : w.Mail.length <= 1500
 ch : w.Chosen.length <= 1500
theorem takes_eq (w : TWorld) (n b : Int) (p : TPromise) (hn : 0 <= n /\ n < 6) (h : Sm w) (hp : In9 p.Ballot) : m_r09_takes w n b p = some (promisedW w n b p) := by
 have hg := h.good
 have hr := h.rw9
 have ht := hg.trs
 have hv := hg.vts
 have h6 := hg.mem.1
 have hml := h.mail
 have hcl := h.ch
 rw [m_r09_takes, if_pos (by omega), promR (trW w n) b p (hr.ranged hg n.toNat (by omega)) hp.r]
 simp only [Option.bind_some]
 by_cases hc : CanP (trW w n) b p
 ·rw [promA_can hc]
  simp only [not_true_eq_false, if_false]
  rw [if_pos (by omega)]
  unfold promisedW
  rw [if_pos hc]
  obtain ⟨e1, e2, _, _⟩ := promisedS_same (trW w n) p
  by_cases h1 : (za9 (trW w n) p).Phase = 1
  ·rw [if_pos (by omega), if_pos h1]
  ·have h2 : (za9 (trW w n) p).Phase = 2 := (promisedS_phase' _ p hc.2.1).resolve_left h1
   rw [if_neg (by simpa using h2), if_neg h1]
   have hb : (za9 (trW w n) p).Ballot = b := e1.trans hc.2.2.1.symm
   rw [hb]
   rw [others_eq { w with Tries := w.Tries.set n.toNat (za9 (trW w n) p) } ⟨n, 0, 3, 0, 0, b, 0, (za9 (trW w n) p).Value, 0, 0⟩ h6 (by show w.Mail.length <= _; omega)]
   simp only [Option.bind_some]
   have hmb : (tellS { w with Tries := w.Tries.set n.toNat (za9 (trW w n) p) } ⟨n, 0, 3, 0, 0, b, 0, (za9 (trW w n) p).Value, 0, 0⟩).Members = w.Members := rfl
   have hvb : (tellS { w with Tries := w.Tries.set n.toNat (za9 (trW w n) p) } ⟨n, 0, 3, 0, 0, b, 0, (za9 (trW w n) p).Value, 0, 0⟩).Votes = w.Votes := rfl
   have htb : (tellS { w with Tries := w.Tries.set n.toNat (za9 (trW w n) p) } ⟨n, 0, 3, 0, 0, b, 0, (za9 (trW w n) p).Value, 0, 0⟩).Tries = w.Tries.set n.toNat (za9 (trW w n) p) := rfl
   have hcb : (tellS { w with Tries := w.Tries.set n.toNat (za9 (trW w n) p) } ⟨n, 0, 3, 0, 0, b, 0, (za9 (trW w n) p).Value, 0, 0⟩).Chosen = w.Chosen := rfl
   generalize hX : tellS { w with Tries := w.Tries.set n.toNat (za9 (trW w n) p) } ⟨n, 0, 3, 0, 0, b, 0, (za9 (trW w n) p).Value, 0, 0⟩ = X at hmb hvb htb hcb
   have hph : (trW w n).Phase ≠ 0 := by have := hc.2.1; omega
   have hmem : (trW w n).Members = w.Members := ((hg.try_ n.toNat (by omega)).2 hph).2
   have hval := promised_kept (a := trW w n) (p := p) ⟨hc.1, hc.2.1, rfl, hc.2.2.2.1, hc.2.2.1 ▸ hc.2.2.2.2⟩
   have hbk : BOk b := hc.2.2.1 ▸ (hc.1.kept hph).ballot
   have hbr : R64 b := hc.2.2.1 ▸ (hr.try_ n.toNat (by omega)).1.r
   have hvv := hg.vote n.toNat (by omega)
   have hvr := hr.vote n.toNat (by omega)
   rw [hasR_eq]
   simp only [Option.bind_some, hmb]
   unfold Go.Proofs.ownVote
   have htX : trW X n = za9 (trW w n) p := by
    show X.Tries.getD n.toNat default = _
    rw [htb, getD_set_same _ _ _ _ (by omega)]
   have hvX : vtW X n = vtW w n := by show X.Votes.getD n.toNat default = _; rw [hvb]
   rw [hmb, hvX]
   by_cases hin : n ∈ w.Members
   ·rw [if_neg (by simpa using hin), if_pos (by rw [hvb]; omega)]
    rw [show X.Votes.getD n.toNat default = vtW w n from hvX, acc7 hvv.1 hvr.1 hvr.2 hbk hbr hval.value.1]
    simp only [Option.bind_some]
    by_cases hlt : b < (vtW w n).Promised
    ·rw [if_pos hlt, if_pos (by simp), if_neg (fun h => by have := h.2.2.2.2; omega)]
    ·rw [if_neg hlt]
     simp only [not_true_eq_false, if_false]
     rw [if_pos (by rw [hvb]; omega), if_pos ⟨hin, hvv.1, hbk, hval.value.1, by omega⟩]
     have hran : Ranged (za9 (trW w n) p) := by
      have k := (h.rw9.promised hv ht n b p hn (hc.2.2.1 ▸ (hr.try_ n.toNat (by omega)).1) hp)
      obtain ⟨l1, l2, l3⟩ := hval.len
      refine ⟨by omega, by rw [hb]; exact hbr, fun q hq => ?_, by omega, by omega, by omega⟩
      rcases promisedS_in q hq with rfl | hq
      ·exact hp.r
      ·exact ((hr.try_ n.toNat (by omega)).2 q hq).r
     have hcan : CanA (za9 (trW w n) p) b n := ⟨hval, by omega, hb.symm, by rw [e2, hmem]; exact hin⟩
     rw [accR _ b n hran, accA_can hcan]
     simp only [Option.bind_some]
     rw [if_pos (by rw [htb]; simp; omega)]
     rw [found_eq _ n _ hn (by show (X.Tries.set _ _).length = 6; rw [htb]; simpa using ht) (by show X.Chosen.length <= 2000; rw [hcb]; omega)]
     simp only [Option.bind_some]
     unfold takenW
     have htY : trW { X with Votes := X.Votes.set n.toNat ⟨b, b, (za9 (trW w n) p).Value⟩ } n = za9 (trW w n) p := htX
     rw [htY, if_pos hcan]
     have htZ : trW { X with Votes := X.Votes.set n.toNat ⟨b, b, (za9 (trW w n) p).Value⟩, Tries := X.Tries.set n.toNat (zao (za9 (trW w n) p) n) } n = zao (za9 (trW w n) p) n := by
      show (X.Tries.set n.toNat (zao (za9 (trW w n) p) n)).getD n.toNat default = _
      rw [getD_set_same _ _ _ _ (by rw [htb]; simp; omega)]
     rw [htZ]
   ·rw [if_pos (by simpa using hin), if_neg (fun h => hin h.1)]
 ·rw [if_pos (by simpa using promA_not hc)]
  unfold promisedW
  rw [if_neg hc]
theorem comes_eq (w : TWorld) (m : TMail) (hm : MOk m) (h : Sm w) (h1 : In9 m.Ballot) (h2 : In9 m.Prior) : m_r09_comes w m = some (comeW w m) := by
 have hg := h.good
 have hr := h.rw9
 have ht := hg.trs
 have hv := hg.vts
 have hml := h.mail
 have hcl := h.ch
 obtain ⟨hf, hto, hk1, hk2, hbk, hpr, hval, _⟩ := hm
 have hvv := hg.vote m.To.toNat (by omega)
 have hvr := hr.vote m.To.toNat (by omega)
 have hset : w.Votes.set m.To.toNat (vtW w m.To) = w.Votes := set_getD w.Votes m.To.toNat default
 rw [m_r09_comes, if_pos (by omega)]
 have hb1 : (if m.Kind = 1 then some (m.Kind == 1) else some (m.Kind == 3)) = some (decide (m.Kind = 1 \/ m.Kind = 3)) := by
  by_cases k1 : m.Kind = 1 <;> by_cases k3 : m.Kind = 3 <;> simp [k1, k3]
 rw [hb1]
 simp only [Option.bind_some, decide_eq_true_eq]
 unfold comeW
 by_cases k13 : m.Kind = 1 \/ m.Kind = 3
 ·rw [if_pos k13, if_neg (by omega), if_neg (by omega), if_neg (by omega)]
  rw [show w.Votes.getD m.To.toNat default = vtW w m.To from rfl, prep7 hvv.1 hvr.1 hvr.2 hbk h1.r]
  simp only [Option.bind_some]
  by_cases k3 : m.Kind = 3
  ·rw [if_pos k3, if_neg (by omega : ¬ m.Kind = 1), acc7 hvv.1 hvr.1 hvr.2 hbk h1.r hval]
   simp only [Option.bind_some]
   by_cases hlt : m.Ballot < (vtW w m.To).Promised
   ·simp only [if_pos hlt, if_true, Option.bind_some]
    rw [if_pos (by omega), if_pos (by simp; omega), if_neg (fun k => by have := k.2.2.2; omega)]
    have e : (⟨(vtW w m.To).Promised, (vtW w m.To).Ballot, (vtW w m.To).Value⟩ : TVote) = vtW w m.To := rfl
    rw [e, hset]
    rfl
   ·simp only [if_neg hlt]
    rw [if_neg (by decide)]
    simp only [Option.bind_some]
    rw [if_pos (by omega), if_pos (by simp; omega), if_pos ⟨hvv.1, hbk, hval, by omega⟩]
    rfl
  ·have k1 : m.Kind = 1 := k13.resolve_right k3
   rw [if_neg k3, if_pos k1]
   by_cases hlt : m.Ballot < (vtW w m.To).Promised
   ·simp only [if_pos hlt, if_true, Option.bind_some]
    rw [if_pos (by omega), if_pos (by simp; omega), if_neg (fun k => by have := k.2.2.2; omega)]
    have e : (⟨(vtW w m.To).Promised, (vtW w m.To).Ballot, (vtW w m.To).Value⟩ : TVote) = vtW w m.To := rfl
    rw [e, hset]
    rfl
   ·simp only [if_neg hlt, Option.bind_some]
    rw [if_neg (by decide)]
    simp only [Option.bind_some]
    rw [if_pos (by omega), if_pos (by simp; omega), if_pos ⟨hvv.1, hbk, by simp, by omega⟩]
    rfl
 ·rw [if_neg k13]
  by_cases k2 : m.Kind = 2
  ·rw [if_pos k2, if_pos k2, takes_eq w m.To m.Ballot ⟨m.From, m.Prior, m.Value⟩ hto h h2]
   rfl
  ·rw [if_neg k2, if_neg k2]
   by_cases k4 : m.Kind = 4
   ·rw [if_pos k4, if_pos k4, if_pos (by omega), accR _ _ _ (hr.ranged hg m.To.toNat (by omega))]
    simp only [Option.bind_some]
    unfold takenW
    by_cases hc : CanA (trW w m.To) m.Ballot m.From
    ·rw [show accA (w.Tries.getD m.To.toNat default) m.Ballot m.From = (zao (trW w m.To) m.From, 0) from accA_can hc, if_pos hc]
     simp only [if_true]
     rw [if_pos (by omega), if_pos (by omega), found_eq _ m.To _ hto (by show (w.Tries.set _ _).length = 6; simpa using ht) (by show w.Chosen.length <= 2000; omega)]
     simp only [Option.bind_some]
     have htZ : trW { w with Tries := w.Tries.set m.To.toNat (zao (trW w m.To) m.From) } m.To = zao (trW w m.To) m.From := by
      show (w.Tries.set m.To.toNat (zao (trW w m.To) m.From)).getD m.To.toNat default = _
      rw [getD_set_same _ _ _ _ (by omega)]
     rw [htZ]
    ·rw [if_neg (show ¬ (accA (w.Tries.getD m.To.toNat default) m.Ballot m.From).2 = 0 from accA_not hc), if_neg hc]
   ·rw [if_neg k4, if_neg k4, if_pos (by omega)]
end Go.Proofs
end
section
namespace Go.Proofs
open Go.Tm
set_option linter.unusedSimpArgs false
theorem self_ints9_loop (l : List Int) : ∀ pre : List Int, zbg (pre ++ l) l pre.length = some (.inr ()) := by
 induction l with
 | nil => intro pre; rfl
 | cons y l ih =>
  intro pre
  have hg : (pre ++ y :: l).getD pre.length default = y := by simp
  have hi := ih (pre ++ [y])
  rw [List.append_assoc, List.singleton_append] at hi
  rw [List.length_append, List.length_singleton] at hi
  rw [zbg, if_pos (by simp)]
  simp only [hg]
  simp [hg, hi]
theorem self_ints9 (l : List Int) : zcf l l = some true := by
 have := self_ints9_loop l []
 rw [List.nil_append, List.length_nil] at this
 rw [zcf, this]; simp
theorem self_att9_loop (a : TAttempt) (l : List TPromise) : ∀ pre : List TPromise, a.Promises = pre ++ l -> m_r08_Same_loop1 a l pre.length = some (.inr ()) := by
 induction l with
 | nil => intro pre _; rfl
 | cons y l ih =>
  intro pre h
  have hg : (pre ++ y :: l).getD pre.length default = y := by simp
  have hi := ih (pre ++ [y]) (by rw [h]; simp)
  rw [List.length_append, List.length_singleton] at hi
  rw [m_r08_Same_loop1, if_pos (by rw [h]; simp)]
  simp only [h, hg]
  simp [hg, hi]
theorem self_att9 (a : TAttempt) : m_r08_Same a a = some true := by
 have := self_att9_loop a a.Promises [] (by simp)
 rw [List.length_nil] at this
 rw [m_r08_Same, self_ints9, self_ints9, this]; simp
theorem self9_1 (w : TWorld) (l : List TVote) : ∀ pre : List TVote, w.Votes = pre ++ l -> m_r09_Same_loop1 w l pre.length = some (.inr ()) := by
 induction l with
 | nil => intro pre _; rfl
 | cons y l ih =>
  intro pre h
  have hg : (pre ++ y :: l).getD pre.length default = y := by simp
  have hi := ih (pre ++ [y]) (by rw [h]; simp)
  rw [List.length_append, List.length_singleton] at hi
  rw [m_r09_Same_loop1, if_pos (by rw [h]; simp)]
  simp only [h, hg]
  simp [hg, hi]
theorem self9_2 (w : TWorld) (l : List TAttempt) : ∀ pre : List TAttempt, w.Tries = pre ++ l -> m_r09_Same_loop2 w l pre.length = some (.inr ()) := by
 induction l with
 | nil => intro pre _; rfl
 | cons y l ih =>
  intro pre h
  have hg : (pre ++ y :: l).getD pre.length default = y := by simp
  have hi := ih (pre ++ [y]) (by rw [h]; simp)
  rw [List.length_append, List.length_singleton] at hi
  rw [m_r09_Same_loop2, if_pos (by rw [h]; simp)]
  simp only [h, hg, self_att9]
  simp [hg, hi]
theorem self9_3 (w : TWorld) (l : List TMail) : ∀ pre : List TMail, w.Mail = pre ++ l -> m_r09_Same_loop3 w l pre.length = some (.inr ()) := by
 induction l with
 | nil => intro pre _; rfl
 | cons y l ih =>
  intro pre h
  have hg : (pre ++ y :: l).getD pre.length default = y := by simp
  have hi := ih (pre ++ [y]) (by rw [h]; simp)
  rw [List.length_append, List.length_singleton] at hi
  rw [m_r09_Same_loop3, if_pos (by rw [h]; simp)]
  simp only [h, hg]
  simp [hg, hi]
theorem self9_4 (w : TWorld) (l : List TChoice) : ∀ pre : List TChoice, w.Chosen = pre ++ l -> m_r09_Same_loop4 w l pre.length = some (.inr ()) := by
 induction l with
 | nil => intro pre _; rfl
 | cons y l ih =>
  intro pre h
  have hg : (pre ++ y :: l).getD pre.length default = y := by simp
  have hi := ih (pre ++ [y]) (by rw [h]; simp)
  rw [List.length_append, List.length_singleton] at hi
  rw [m_r09_Same_loop4, if_pos (by rw [h]; simp)]
  simp only [h, hg]
  simp [hg, hi]
theorem self9 (w : TWorld) : m_r09_Same w w = some true := by
 have h1 := self9_1 w w.Votes [] (by simp)
 have h2 := self9_2 w w.Tries [] (by simp)
 have h3 := self9_3 w w.Mail [] (by simp)
 have h4 := self9_4 w w.Chosen [] (by simp)
 rw [List.length_nil] at h1 h2 h3 h4
 rw [m_r09_Same, self_ints9]
 simp only [Option.bind_some]
 rw [if_neg (by simp), h1]
 simp only [Option.bind_some]
 rw [h2]
 simp only [Option.bind_some]
 rw [h3]
 simp only [Option.bind_some]
 rw [h4]
 simp only [Option.bind_some]
theorem node5 (n : Int) : m_r05_Node n = some (decide (0 <= n /\ n < 6)) := by
 rw [m_r05_Node]
 by_cases h1 : 0 <= n <;> by_cases h2 : n < 6 <;> simp [h1, h2]
theorem mayMail_eq (m : TMail) (hm : MOk m) (h1 : In9 m.Ballot) : m_r09_mayMail m = some true := by
 obtain ⟨hf, hto, hk1, hk2, hbk, hpr, hval, hz1, hz2, hz3, hz4⟩ := hm
 rw [m_r09_mayMail, node5, node5, bmay_eq _ h1.r]
 have e1 : decide (0 <= m.From /\ m.From < 6) = true := by simpa using hf
 have e2 : decide (0 <= m.To /\ m.To < 6) = true := by simpa using hto
 have e3 : decide (BOk m.Ballot) = true := by simpa using hbk
 rw [e1, e2, e3]
 have l1 : (m.Value.length : Int) <= 1024 := by omega
 simp [hz1, hz2, hz3, hz4, hk1, hk2, hpr, l1]
theorem may9_3 : ∀ l : List TChoice, (∀ c ∈ l, (0 <= c.Node /\ c.Node < 6) /\ c.Value.length <= 1024) -> m_r09_May_loop3 l = some (.inr ())
 | [], _ => m_r09_May_loop3_n
 | c :: l, h => by
  have h1 := h c (List.mem_cons_self ..)
  rw [m_r09_May_loop3_c, node5]
  simp only [Option.bind_some]
  rw [if_neg (by simp; omega)]
  exact may9_3 l fun k hk => h k (List.mem_cons_of_mem _ hk)
theorem may9_2 : ∀ l : List TMail, (∀ m ∈ l, MOk m /\ In9 m.Ballot) -> zcg l = some (.inr ())
 | [], _ => by rw [zcg]
 | c :: l, h => by
  have h1 := h c (List.mem_cons_self ..)
  rw [zcg, mayMail_eq c h1.1 h1.2]
  simp only [Option.bind_some]
  rw [if_neg (by simp)]
  exact may9_2 l fun k hk => h k (List.mem_cons_of_mem _ hk)
theorem may9_1 (w : TWorld) (hg : WG w) (hr : RW w) : ∀ (k n fu : Nat), n + k = 6 -> k < fu -> zch w fu (n : Int) = some (.inr ()) := by
 intro k
 induction k with
 | zero =>
  intro n fu hn hf
  obtain ⟨f, rfl⟩ : ∃ f, fu = f + 1 := ⟨fu - 1, by omega⟩
  rw [zch, if_neg (by omega)]
 | succ k ih =>
  intro n fu hn hf
  obtain ⟨f, rfl⟩ : ∃ f, fu = f + 1 := ⟨fu - 1, by omega⟩
  have ht := hg.trs
  have hv := hg.vts
  have hn6 : n < 6 := by omega
  rw [zch, if_pos (by omega), if_pos (by omega), if_pos (by omega)]
  simp only [Int.toNat_natCast]
  have hvo := hg.vote n hn6
  have hvr := hr.vote n hn6
  obtain ⟨b, hb1, hb2⟩ := mayR_eq (w.Tries.getD n default) (hr.ranged hg n hn6)
  have hbt : b = true := hb2.2 (hg.try_ n hn6).1
  rw [may7 _ hvr.1 hvr.2, hb1, hbt]
  have e1 : decide (VOk (w.Votes.getD n default)) = true := by simpa using hvo.1
  rw [e1]
  simp only [Option.bind_some, not_true_eq_false, not_false_eq_true, if_true, or_self, true_and]
  by_cases h0 : (w.Tries.getD n default).Phase = 0
  ·simp only [h0, not_true_eq_false, false_and, if_false, Option.bind_some, or_self]
   rw [wr64 _ (by omega), show (n : Int) + 1 = ((n + 1 : Nat) : Int) from rfl]
   exact ih (n + 1) f (by omega) (by omega)
  ·obtain ⟨o1, o2⟩ := (hg.try_ n hn6).2 h0
   have hkb := ((hg.try_ n hn6).1.kept h0).ballot
   have o3 : (w.Tries.getD n default).Ballot.tmod 8 = (n : Int) := by
    unfold ownB at o1
    have := hkb.2.1
    omega
   rw [o2, o3, self_ints9]
   simp only [h0, not_true_eq_false, not_false_eq_true, and_self, if_true, Option.bind_some, or_self, and_false, if_false]
   rw [wr64 _ (by omega), show (n : Int) + 1 = ((n + 1 : Nat) : Int) from rfl]
   exact ih (n + 1) f (by omega) (by omega)
theorem may9 (w : TWorld) (hg : WG w) (hr : RW w) (h1 : w.Mail.length <= 1000) (h2 : w.Chosen.length <= 1000) : m_r09_May w = some true := by
 have ht := hg.trs
 have hv := hg.vts
 rw [m_r09_May, qmayS]
 simp only [Option.bind_some]
 have e1 : decide (QOk w.Members) = true := by simpa using hg.mem
 rw [e1, if_neg (by simp; omega)]
 have := may9_1 w hg hr 6 0 7 (by omega) (by omega)
 rw [show ((0 : Nat) : Int) = 0 from rfl] at this
 rw [this]
 simp only [Option.bind_some]
 rw [may9_2 w.Mail fun m hm => ⟨hg.mails m hm, (hr.mails m hm).1⟩]
 simp only [Option.bind_some]
 rw [may9_3 w.Chosen hg.chs]
 simp only [Option.bind_some]
theorem twin9_loop (w : TWorld) (hg : WG w) : ∀ (k n fu : Nat) (l : List TAttempt), n + k = 6 -> k < fu -> l.length = n -> zc6 w fu l (n : Int) = some (l ++ w.Tries.drop n) := by
 intro k
 induction k with
 | zero =>
  intro n fu l hn hf hl
  have ht := hg.trs
  obtain ⟨f, rfl⟩ : ∃ f, fu = f + 1 := ⟨fu - 1, by omega⟩
  rw [zc6, if_neg (by omega), List.drop_eq_nil_of_le (by omega)]
  simp
 | succ k ih =>
  intro n fu l hn hf hl
  have ht := hg.trs
  obtain ⟨f, rfl⟩ : ∃ f, fu = f + 1 := ⟨fu - 1, by omega⟩
  have hlt : n < w.Tries.length := by omega
  have hd := List.drop_eq_getElem_cons hlt
  have hgd : w.Tries.getD n default = w.Tries[n] := by
   rw [List.getD_eq_getElem?_getD, List.getElem?_eq_getElem hlt]
   rfl
  obtain ⟨l1, l2, l3⟩ := (hg.try_ n (by omega)).1.len
  rw [zc6, if_pos (by omega), if_pos (by omega)]
  simp only [Int.toNat_natCast]
  rw [twinR_eq _ (by omega) (by omega) (by omega)]
  simp only [Option.bind_some]
  rw [if_pos (by simp; omega), wr64 _ (by omega), show (n : Int) + 1 = ((n + 1 : Nat) : Int) from rfl, ih (n + 1) f _ (by omega) (by omega) (by simp; omega), hd, hgd]
  simp
theorem twin9 (w : TWorld) (hg : WG w) (h1 : w.Mail.length <= 1000) (h2 : w.Chosen.length <= 1000) : m_r09_Twin w = some w := by
 have ht := hg.trs
 have hv := hg.vts
 have hm := hg.mem.1
 rw [m_r09_Twin, if_pos (by omega), if_pos (by omega), if_pos (by omega), if_pos (by omega)]
 have := twin9_loop w hg 6 0 (w.Tries.length + 1) [] (by omega) (by omega) rfl
 rw [show ((0 : Nat) : Int) = 0 from rfl] at this
 rw [this]
 simp
end Go.Proofs
end
section
namespace Go.Proofs
open Go.Tm
set_option linter.unusedSimpArgs false
def nextB (a n : Int) : Int := if a / 8 * 8 + n <= a \/ a / 8 * 8 + n < 8 then a / 8 * 8 + n + 8 else a / 8 * 8 + n
def nextS (a n : Int) : Int × Int := if nextB a n > 8388613 then (0, 9) else (nextB a n, 0)
theorem nextD (a n : Int) (hn : 0 <= n /\ n < 6) (ha : In9 a) : m_ballot_Next a n = some (nextS a n) := by
 obtain ⟨h1, h2⟩ := hn
 obtain ⟨h3, h4⟩ := ha
 rw [m_ballot_Next, bnode_eq]
 simp only [Option.bind_some]
 rw [if_neg (by simp; omega)]
 have e1 : a.tdiv 8 = a / 8 := Int.tdiv_eq_ediv_of_nonneg h3
 have e2 : wr .i64 (a / 8) = a / 8 := wr64 _ (by omega)
 have e3 : wr .i64 (a / 8 * 8) = a / 8 * 8 := wr64 _ (by omega)
 have e4 : wr .i64 (a / 8 * 8 + n) = a / 8 * 8 + n := wr64 _ (by omega)
 have e5 : wr .i64 (a / 8 * 8 + n + 8) = a / 8 * 8 + n + 8 := wr64 _ (by omega)
 simp only [e1, e2, e3, e4, e5]
 unfold nextS nextB
 split
 ·simp only [Option.bind_some]
  split <;> rfl
 ·simp only [Option.bind_some]
  split <;> rfl
theorem nextR (a n : Int) (hn : 0 <= n /\ n < 6) (ha : In9 a) : m_r05_Next a n = some (nextS a n) := by
 obtain ⟨h1, h2⟩ := hn
 obtain ⟨h3, h4⟩ := ha
 rw [m_r05_Next, node5]
 simp only [Option.bind_some]
 rw [if_neg (by simp; omega)]
 have e1 : a.tdiv 8 = a / 8 := Int.tdiv_eq_ediv_of_nonneg h3
 have e0 : a.tmod 8 = a % 8 := Int.tmod_eq_emod_of_nonneg h3
 have e2 : wr .i64 (a / 8) = a / 8 := wr64 _ (by omega)
 have e3 : wr .i64 (a / 8 + 1) = a / 8 + 1 := wr64 _ (by omega)
 simp only [e0, e1, e2, e3]
 have hq : ∃ q : Int, (if a % 8 >= n then some (a / 8 + 1) else some (a / 8)) = some q /\ 0 <= q /\ q <= 1048577 /\ max q 1 * 8 + n = nextB a n := by
  unfold nextB
  by_cases k : a % 8 >= n
  ·refine ⟨a / 8 + 1, if_pos k, by omega, by omega, ?_⟩
   rw [if_pos (by omega)]
   omega
  ·refine ⟨a / 8, if_neg k, by omega, by omega, ?_⟩
   by_cases k2 : a / 8 = 0
   ·rw [if_pos (by omega)]
    omega
   ·rw [if_neg (by omega)]
    omega
 obtain ⟨q, hq1, hq2, hq3, hq4⟩ := hq
 rw [hq1]
 simp only [Option.bind_some]
 have e6 : wr .i64 (max q 1 * 8) = max q 1 * 8 := wr64 _ (by omega)
 have e7 : wr .i64 (max q 1 * 8 + n) = max q 1 * 8 + n := wr64 _ (by omega)
 rw [e6, e7, hq4]
 unfold nextS
 by_cases k : max q 1 > 1048576
 ·rw [if_pos k, if_pos (by omega)]
 ·rw [if_neg k, if_neg (by omega)]
theorem nextS_ok (a n : Int) (hn : 0 <= n /\ n < 6) (ha : In9 a) (h0 : (nextS a n).2 = 0) : a < (nextS a n).1 /\ 8 <= (nextS a n).1 /\ BOk (nextS a n).1 /\ ownB (nextS a n).1 = n.toNat /\ In9 (nextS a n).1 := by
 obtain ⟨r, hr, k⟩ := next_eq a n
 rw [nextD a n hn ha] at hr
 cases hr
 obtain ⟨_, _, _, k1, k2, k3, k4⟩ := k h0
 refine ⟨k1, k2, k3, k4, by omega, ?_⟩
 unfold nextS at h0 ⊢
 split at h0
 ·simp at h0
 ·rename_i h1
  rw [if_neg h1]
  show nextB a n <= _
  omega
theorem begA (m : List Int) (b : Int) (t : List UInt8) (hq : QOk m) (hb : BOk b) (hw : t.length <= 1024) : m_attempt_Begin m b t = some (⟨1, b, m, t, [], [], []⟩, 0) := by
 rw [m_attempt_Begin, qcheck_eq, if_neg (by have := hq.1; omega), if_pos hq.2]
 simp only [Option.bind_some, not_true_eq_false, if_false, bcheck_eq]
 rw [if_pos hb]
 simp only [not_true_eq_false, if_false]
 rw [if_neg (by omega), zah, if_pos (by have := hq.1; omega)]
 rfl
theorem qcheck6 (l : List Int) : m_r06_Check l = some (if l.length > 6 then 4 else if zbt (-1) l = true /\ l ≠ [] then 0 else 60) := by
 rw [m_r06_Check, qmayS]
 simp only [Option.bind_some]
 by_cases h1 : l.length > 6
 ·rw [if_pos (by omega), if_pos h1]
 ·rw [if_neg (by omega), if_neg h1]
  by_cases h2 : zbt (-1) l = true /\ l ≠ []
  ·have : QOk l := ⟨by omega, h2⟩
   simp [this, h2]
  ·have : ¬ QOk l := fun h => h2 h.2
   rw [if_neg h2]
   simp [this]
theorem begR (m : List Int) (b : Int) (t : List UInt8) (hq : QOk m) (hb : BOk b) (hr : R64 b) (hw : t.length <= 1024) : m_r08_Begin m b t = some (⟨1, b, m, t, [], [], []⟩, 0) := by
 rw [m_r08_Begin, qcheck6, if_neg (by have := hq.1; omega), if_pos hq.2]
 simp only [Option.bind_some, if_true]
 rw [m_r05_Check, bmay_eq _ hr]
 simp only [hb, decide_true, Option.bind_some, not_true_eq_false, if_false]
 rw [if_neg (by omega)]
 simp only [Option.bind_some, not_true_eq_false, if_false]
 rw [if_pos (by have := hq.1; omega)]
theorem Sm.pre {w : TWorld} (h : Sm w) (h1 : w.Mail.length <= 1000) (n b : Int) (t : List UInt8) (hn : 0 <= n /\ n < 6) (ha : AskedS (vtW w n) b []) (ht : t.length <= 1024) (hb : 8 <= b) (ho : ownB b = n.toNat) (h9 : In9 b) : Sm (preW w n b t) where
 good := h.good.pre n b t hn ha ht hb ho
 rw9 := h.rw9.pre h.good.vts h.good.trs n b t hn h9
 mail := by
  have := tellS_len { w with Votes := w.Votes.set n.toNat { vtW w n with Promised := b }, Tries := w.Tries.set n.toNat ⟨1, b, w.Members, t, [], [], []⟩ } ⟨n, 0, 1, 0, 0, b, 0, [], 0, 0⟩
  have hm := h.good.mem.1
  refine Nat.le_trans this ?_
  show w.Mail.length + w.Members.length <= 1500
  omega
 ch := h.ch
def begS (w : TWorld) (n : Int) : Int × Int := nextS (vtW w n).Promised n
theorem beginR (w : TWorld) (n : Int) (t : List UInt8) (hn : 0 <= n /\ n < 6) (h : Sm w) (h1 : w.Mail.length <= 1000) (ht : t.length <= 1024) : m_r09_begins w n t = some (if (begS w n).2 = 0 then (0, beginW w n (begS w n).1 t) else ((begS w n).2, w)) := by
 have hg := h.good
 have hr := h.rw9
 have hv := hg.vts
 have htr := hg.trs
 have hvv := hg.vote n.toNat (by omega)
 have hvr := hr.vote n.toNat (by omega)
 rw [m_r09_begins, if_pos (by omega)]
 rw [show m_r05_Next (w.Votes.getD n.toNat default).Promised n = some (begS w n) from nextR _ n hn hvr.1]
 simp only [Option.bind_some]
 by_cases h0 : (begS w n).2 = 0
 ·obtain ⟨k1, k2, k3, k4, k5⟩ := nextS_ok _ n hn hvr.1 h0
  rw [if_neg (by simpa using h0), if_pos h0]
  change (vtW w n).Promised < (begS w n).1 at k1
  change 8 <= (begS w n).1 at k2
  change BOk (begS w n).1 at k3
  change ownB (begS w n).1 = _ at k4
  change In9 (begS w n).1 at k5
  rw [show w.Votes.getD n.toNat default = vtW w n from rfl, prep7 hvv.1 hvr.1 hvr.2 k3 k5.r]
  simp only [Option.bind_some]
  rw [begR _ _ _ hg.mem k3 k5.r ht, if_neg (by omega : ¬ (begS w n).1 < (vtW w n).Promised)]
  simp only [Option.bind_some]
  rw [if_pos (by omega), if_pos (by omega)]
  have ha : AskedS (vtW w n) (begS w n).1 [] := ⟨hvv.1, k3, by simp, by omega⟩
  have hS := h.pre h1 n (begS w n).1 t hn ha ht k2 k4 k5
  have e := others_eq { w with Votes := w.Votes.set n.toNat { vtW w n with Promised := (begS w n).1 }, Tries := w.Tries.set n.toNat ⟨1, (begS w n).1, w.Members, t, [], [], []⟩ } ⟨n, 0, 1, 0, 0, (begS w n).1, 0, [], 0, 0⟩ hg.mem.1 (by show w.Mail.length <= 2000; omega)
  rw [e]
  simp only [Option.bind_some]
  have e2 := takes_eq (preW w n (begS w n).1 t) n (begS w n).1 ⟨n, (vtW w n).Ballot, (vtW w n).Value⟩ hn hS hvr.2
  rw [show tellS { w with Votes := w.Votes.set n.toNat { vtW w n with Promised := (begS w n).1 }, Tries := w.Tries.set n.toNat ⟨1, (begS w n).1, w.Members, t, [], [], []⟩ } ⟨n, 0, 1, 0, 0, (begS w n).1, 0, [], 0, 0⟩ = preW w n (begS w n).1 t from rfl, e2]
  rfl
 ·rw [if_pos h0, if_neg h0]
theorem beginD (w : TWorld) (n : Int) (t : List UInt8) (hn : 0 <= n /\ n < 6) (h : Sm w) (h1 : w.Mail.length <= 1000) (h2 : w.Chosen.length <= 1000) (ht : t.length <= 1024) : ∃ r, m_decree_world_begin ⟨w⟩ n t = some r /\ ((begS w n).2 = 0 -> r = (0, ⟨beginW w n (begS w n).1 t⟩)) /\ ((begS w n).2 ≠ 0 -> r.1 ≠ 0) := by
 have hg := h.good
 have hr := h.rw9
 have hv := hg.vts
 have htr := hg.trs
 have hvv := hg.vote n.toNat (by omega)
 have hvr := hr.vote n.toNat (by omega)
 rw [m_decree_world_begin, if_pos (by dsimp only; omega)]
 show ∃ r, Option.bind (m_ballot_Next (vtW w n).Promised n) _ = some r /\ _
 rw [show m_ballot_Next (vtW w n).Promised n = some (begS w n) from nextD _ n hn hvr.1]
 simp only [Option.bind_some]
 by_cases h0 : (begS w n).2 = 0
 ·obtain ⟨k1, k2, k3, k4, k5⟩ := nextS_ok _ n hn hvr.1 h0
  rw [if_neg (by simpa using h0)]
  change (vtW w n).Promised < (begS w n).1 at k1
  change 8 <= (begS w n).1 at k2
  change BOk (begS w n).1 at k3
  change ownB (begS w n).1 = _ at k4
  change In9 (begS w n).1 at k5
  have ha : AskedS (vtW w n) (begS w n).1 [] := ⟨hvv.1, k3, by simp, by omega⟩
  have hS := h.pre h1 n (begS w n).1 t hn ha ht k2 k4 k5
  obtain ⟨r2, hr2, a1, a2⟩ := prepare_eq (vtW w n) (begS w n).1
  show ∃ r, Option.bind (m_vote_Prepare (vtW w n) (begS w n).1) _ = some r /\ _
  rw [hr2]
  simp only [Option.bind_some]
  have h20 := a1.2 ha
  rw [if_pos (by omega), if_neg (by simpa using h20), a2 h20, begA _ _ _ hg.mem k3 ht]
  simp only [Option.bind_some]
  rw [if_pos (by omega), if_neg (by simp)]
  have e := tell_eq { w with Votes := w.Votes.set n.toNat { vtW w n with Promised := (begS w n).1 }, Tries := w.Tries.set n.toNat ⟨1, (begS w n).1, w.Members, t, [], [], []⟩ } ⟨n, 0, 1, 0, 0, (begS w n).1, 0, [], 0, 0⟩ hg.mem.1 (by show w.Mail.length <= 2000; omega)
  rw [e]
  simp only [Option.bind_some]
  have e2 := promW_eq (preW w n (begS w n).1 t) n (begS w n).1 ⟨n, (vtW w n).Ballot, (vtW w n).Value⟩ hn ⟨hS.good.mem.1, hS.good.vts, hS.good.trs, hS.mail, h2⟩ (by
   rw [pre_try hg _ _ _ hn]
   simp)
  rw [show tellS { w with Votes := w.Votes.set n.toNat { vtW w n with Promised := (begS w n).1 }, Tries := w.Tries.set n.toNat ⟨1, (begS w n).1, w.Members, t, [], [], []⟩ } ⟨n, 0, 1, 0, 0, (begS w n).1, 0, [], 0, 0⟩ = preW w n (begS w n).1 t from rfl, e2]
  exact ⟨_, rfl, fun _ => rfl, fun h => absurd h0 h⟩
 ·rw [if_pos h0]
  exact ⟨_, rfl, fun h => absurd h h0, fun _ => h0⟩
end Go.Proofs
end
section
namespace Go.Proofs
open Go.Tm
set_option linter.unusedSimpArgs false
def mailS (w : TWorld) (m : TMove) : List TMail := if m.Kind = 3 then w.Mail else w.Mail.eraseIdx m.At.toNat
noncomputable def doS (w : TWorld) (m : TMove) : Option TWorld :=
 if m.Kind = 1 \/ m.Kind = 5 then
  if 0 <= m.Node /\ m.Node < 6 then
   if m.Kind = 5 then some { w with Tries := w.Tries.set m.Node.toNat ⟨0, 0, [], [], [], [], []⟩ }
   else if m.Value.length <= 1024 then
    if (begS w m.Node).2 = 0 then some (beginW w m.Node (begS w m.Node).1 m.Value) else none
   else none
  else none
 else if m.Kind = 2 \/ m.Kind = 3 \/ m.Kind = 4 then
  if 0 <= m.At /\ m.At < (w.Mail.length : Int) then
   if m.Kind = 4 then some { w with Mail := mailS w m }
   else some (comeW { w with Mail := mailS w m } (w.Mail.getD m.At.toNat default))
  else none
 else none
def Fits (x : TWorld) : Prop := x.Mail.length <= 1000 /\ x.Chosen.length <= 1000
def Ans (q : Option TWorld) (r : TWorld × Int) : Prop :=
 match q with
 | none => r.2 ≠ 0
 | some x => (Fits x -> r = (x, 0)) /\ (¬ Fits x -> r.2 ≠ 0)
theorem Ans.same {q : Option TWorld} {r s : TWorld × Int} (h : Ans q r) (k : Ans q s) : (r.2 = 0 ↔ s.2 = 0) /\ (r.2 = 0 -> s.1 = r.1) := by
 cases q with
 | none =>
  have h : r.2 ≠ 0 := h
  have k : s.2 ≠ 0 := k
  exact ⟨by simp [h, k], fun e => absurd e h⟩
 | some x =>
  obtain ⟨h1, h2⟩ := h
  obtain ⟨k1, k2⟩ := k
  by_cases f : Fits x
  ·rw [h1 f, k1 f]; simp
  ·have a := h2 f
   have b := k2 f
   exact ⟨by simp [a, b], fun e => absurd e a⟩
theorem ans_full (x : TWorld) : ∃ r, (if ((x.Mail.length : Int) > 1000) \/ ((x.Chosen.length : Int) > 1000) then
 some ((⟨[], [], [], [], []⟩ : TWorld), (9 : Int))
 else
 some ((⟨x.Members, x.Votes, x.Tries, x.Mail, x.Chosen⟩ : TWorld), 0)) = some r /\ Ans (some x) r := by
 by_cases h : ((x.Mail.length : Int) > 1000) \/ ((x.Chosen.length : Int) > 1000)
 ·exact ⟨_, if_pos h, fun f => by unfold Fits at f; omega, fun _ => by simp⟩
 ·exact ⟨_, if_neg h, fun _ => rfl, fun f => absurd (show Fits x by unfold Fits; omega) f⟩
theorem cut_eq (l : List TMail) (i : Int) (h0 : 0 <= i) (h1 : i < 2000) : l.take i.toNat ++ l.drop (wr .i64 (i + 1)).toNat = l.eraseIdx i.toNat := by
 rw [wr64 _ (by omega), List.eraseIdx_eq_take_drop_succ, show (i + 1).toNat = i.toNat + 1 by omega]
theorem doR (w : TWorld) (m : TMove) (h : Sm w) (h1 : w.Mail.length <= 1000) (h2 : w.Chosen.length <= 1000) : ∃ r, m_r09_Do w m = some r /\ Ans (doS w m) r := by
 have hg := h.good
 have hr := h.rw9
 have ht := hg.trs
 have err : ∀ e : Int, e ≠ 0 -> ∃ r, some ((⟨[], [], [], [], []⟩ : TWorld), e) = some r /\ Ans none r := fun e he => ⟨_, rfl, he⟩
 rw [m_r09_Do, may9 w hg hr h1 h2]
 simp only [Option.bind_some]
 rw [if_neg (by simp)]
 unfold doS
 by_cases k0 : (m.Kind < 1) \/ (m.Kind > 5)
 ·rw [if_pos k0, if_neg (by omega), if_neg (by omega)]
  exact err 2 (by decide)
 rw [if_neg k0, twin9 w hg h1 h2]
 simp only [Option.bind_some]
 by_cases k1 : m.Kind = 1 \/ m.Kind = 5
 ·rw [if_pos k1, if_pos k1, node5]
  simp only [Option.bind_some, decide_eq_true_eq]
  by_cases hn : 0 <= m.Node /\ m.Node < 6
  ·rw [if_neg (by simpa using hn), if_pos hn]
   by_cases k5 : m.Kind = 5
   ·rw [if_pos k5, if_pos k5, if_pos (by omega)]
    simp only [Option.bind_some]
    exact ⟨_, rfl, fun _ => rfl, fun f => absurd (show Fits _ from ⟨h1, h2⟩) f⟩
   ·rw [if_neg k5, if_neg k5]
    by_cases hl : m.Value.length <= 1024
    ·rw [if_neg (by omega), if_pos hl, beginR w m.Node m.Value hn h h1 hl]
     simp only [Option.bind_some]
     by_cases h0 : (begS w m.Node).2 = 0
     ·simp only [if_pos h0]
      rw [if_neg (by simp)]
      exact ans_full (beginW w m.Node (begS w m.Node).1 m.Value)
     ·simp only [if_neg h0]
      rw [if_pos h0]
      exact err _ h0
    ·rw [if_pos (by omega), if_neg hl]
     exact err 3 (by decide)
  ·rw [if_pos (by simpa using hn), if_neg hn]
   exact err 2 (by decide)
 ·rw [if_neg k1, if_neg k1, if_pos (show m.Kind = 2 \/ m.Kind = 3 \/ m.Kind = 4 by omega)]
  by_cases ha : 0 <= m.At /\ m.At < (w.Mail.length : Int)
  ·rw [if_neg (show ¬ ((m.At < 0) \/ (m.At >= (w.Mail.length : Int))) by omega), if_pos ha]
   have hmem : w.Mail.getD m.At.toNat default ∈ w.Mail := by
    have h1 : m.At.toNat < w.Mail.length := by omega
    rw [List.getD_eq_getElem?_getD, List.getElem?_eq_getElem h1]
    exact List.getElem_mem h1
   have hM : (if ¬ (m.Kind = 3) then
 if (0 <= m.At /\ m.At <= (w.Mail.length : Int)) then
 if (0 <= (wr .i64 (m.At + 1)) /\ (wr .i64 (m.At + 1)) <= (w.Mail.length : Int)) then
 if (w.Mail.take m.At.toNat).length + (w.Mail.drop (wr .i64 (m.At + 1)).toNat).length < 1000000 then
 some ((w.Mail.take m.At.toNat) ++ (w.Mail.drop (wr .i64 (m.At + 1)).toNat))
 else none
 else none
 else none
 else
 some w.Mail) = some (mailS w m) := by
    unfold mailS
    by_cases k3 : m.Kind = 3
    ·rw [if_neg (by simpa using k3), if_pos k3]
    ·rw [if_pos k3, if_neg k3, if_pos (by omega), if_pos (by rw [wr64 _ (by omega)]; omega), if_pos (by rw [List.length_take, List.length_drop]; omega), cut_eq _ _ ha.1 (by omega)]
   rw [hM]
   simp only [Option.bind_some]
   have hMs : ∀ k ∈ mailS w m, k ∈ w.Mail := fun k hk => by
    unfold mailS at hk
    split at hk
    ·exact hk
    ·exact List.mem_of_mem_eraseIdx hk
   have hMl : (mailS w m).length <= w.Mail.length := by
    unfold mailS
    split
    ·exact Nat.le_refl _
    ·exact List.length_eraseIdx_le ..
   by_cases k4 : m.Kind = 4
   ·rw [if_neg (by simpa using k4), if_pos k4]
    exact ans_full { w with Mail := mailS w m }
   ·rw [if_pos k4, if_neg k4, if_pos ha]
    have hS : Sm { w with Mail := mailS w m } := ⟨hg.setMail _ fun k hk => .inl (hMs k hk), hr.setMail _ fun k hk => .inl (hMs k hk), by show (mailS w m).length <= 1500; omega, h.ch⟩
    have e := comes_eq { w with Mail := mailS w m } (w.Mail.getD m.At.toNat default) (hg.mails _ hmem) hS (hr.mails _ hmem).1 (hr.mails _ hmem).2
    rw [e]
    simp only [Option.bind_some]
    exact ans_full (comeW { w with Mail := mailS w m } (w.Mail.getD m.At.toNat default))
  ·rw [if_pos (show (m.At < 0) \/ (m.At >= (w.Mail.length : Int)) by omega), if_neg ha]
   exact err 6 (by decide)
theorem doD (w : TWorld) (m : TMove) (h : Sm w) (h1 : w.Mail.length <= 1000) (h2 : w.Chosen.length <= 1000) : ∃ r, m_decree_Do w m = some r /\ Ans (doS w m) r := by
 have hg := h.good
 have hr := h.rw9
 have ht := hg.trs
 have hok := hg.ok h1 h2
 obtain ⟨e, he, hoe⟩ := dcheck_eq w hok.proms
 have hs := hok.shape
 have err : ∀ e : Int, e ≠ 0 -> ∃ r, some ((⟨[], [], [], [], []⟩ : TWorld), e) = some r /\ Ans none r := fun e he => ⟨_, rfl, he⟩
 rw [m_decree_Do, he]
 simp only [Option.bind_some]
 rw [if_neg (by simpa using hoe.2 hok), dtwin_eq hok]
 simp only [Option.bind_some]
 have hb1 : (if m.Kind = 1 then some (m.Kind == 1) else some (m.Kind == 5)) = some (decide (m.Kind = 1 \/ m.Kind = 5)) := by
  by_cases h1 : m.Kind = 1 <;> by_cases h5 : m.Kind = 5 <;> simp [h1, h5]
 have hb2 : (if m.Kind = 2 then some (m.Kind == 2) else if m.Kind = 3 then some (m.Kind == 3) else some (m.Kind == 4)) = some (decide (m.Kind = 2 \/ m.Kind = 3 \/ m.Kind = 4)) := by
  by_cases h1 : m.Kind = 2 <;> by_cases h5 : m.Kind = 3 <;> by_cases h6 : m.Kind = 4 <;> simp [h1, h5, h6]
 rw [hb1]
 simp only [Option.bind_some, decide_eq_true_eq]
 unfold doS
 by_cases k1 : m.Kind = 1 \/ m.Kind = 5
 ·rw [if_pos k1, if_pos k1, node_eq]
  simp only [Option.bind_some, decide_eq_true_eq]
  by_cases hn : 0 <= m.Node /\ m.Node < 6
  ·rw [if_neg (by simpa using hn), if_pos hn]
   by_cases k5 : m.Kind = 5
   ·rw [if_pos k5, if_pos k5, if_pos (by omega)]
    exact ans_full { w with Tries := w.Tries.set m.Node.toNat ⟨0, 0, [], [], [], [], []⟩ }
   ·rw [if_neg k5, if_neg k5]
    by_cases hl : m.Value.length <= 1024
    ·rw [if_neg (by omega), if_pos hl]
     obtain ⟨r, hr1, hr2, hr3⟩ := beginD w m.Node m.Value hn h h1 h2 hl
     rw [hr1]
     simp only [Option.bind_some]
     by_cases h0 : (begS w m.Node).2 = 0
     ·rw [if_pos h0, hr2 h0, if_neg (by simp)]
      exact ans_full (beginW w m.Node (begS w m.Node).1 m.Value)
     ·rw [if_neg h0, if_pos (hr3 h0)]
      exact err _ (hr3 h0)
    ·rw [if_pos (by omega), if_neg hl]
     exact err 3 (by decide)
  ·rw [if_pos (by simpa using hn), if_neg hn]
   exact err 2 (by decide)
 ·rw [if_neg k1, if_neg k1, hb2]
  simp only [Option.bind_some, decide_eq_true_eq]
  by_cases k2 : m.Kind = 2 \/ m.Kind = 3 \/ m.Kind = 4
  ·rw [if_pos k2, if_pos k2]
   by_cases ha : 0 <= m.At /\ m.At < (w.Mail.length : Int)
   ·rw [if_neg (show ¬ ((m.At < 0) \/ (m.At >= (w.Mail.length : Int))) by omega)]
    simp only [if_pos ha]
    have hmem : w.Mail.getD m.At.toNat default ∈ w.Mail := by
     have h1 : m.At.toNat < w.Mail.length := by omega
     rw [List.getD_eq_getElem?_getD, List.getElem?_eq_getElem h1]
     exact List.getElem_mem h1
    have hM : (if ¬ (m.Kind = 3) then
 if w.Mail.length < 1000000 then
 some (w.Mail.eraseIdx m.At.toNat)
 else none
 else
 some w.Mail) = some (mailS w m) := by
     unfold mailS
     by_cases k3 : m.Kind = 3
     ·rw [if_neg (by simpa using k3), if_pos k3]
     ·rw [if_pos k3, if_neg k3, if_pos (by omega)]
    rw [hM]
    simp only [Option.bind_some]
    have hMl : (mailS w m).length <= w.Mail.length := by
     unfold mailS
     split
     ·exact Nat.le_refl _
     ·exact List.length_eraseIdx_le ..
    by_cases k4 : m.Kind = 4
    ·rw [if_neg (by simpa using k4), if_pos k4]
     exact ans_full { w with Mail := mailS w m }
    ·rw [if_pos k4, if_neg k4]
     have e := comeW_eq { w with Mail := mailS w m } (w.Mail.getD m.At.toNat default) (hok.mails _ hmem) ⟨hs.mem, hs.vts, hs.trs, Nat.le_trans hMl hs.mail, hs.ch⟩ hok.proms
     rw [e]
     simp only [Option.bind_some]
     exact ans_full (comeW { w with Mail := mailS w m } (w.Mail.getD m.At.toNat default))
   ·rw [if_pos (show (m.At < 0) \/ (m.At >= (w.Mail.length : Int)) by omega), if_neg ha]
    exact err 6 (by decide)
  ·rw [if_neg k2, if_neg k2]
   exact err 2 (by decide)
theorem doS_rw (w x : TWorld) (m : TMove) (h : Sm w) (hx : doS w m = some x) : WG x /\ RW x := by
 have hg := h.good
 have hr := h.rw9
 have hv := hg.vts
 have ht := hg.trs
 have z : Valid (⟨0, 0, [], [], [], [], []⟩ : TAttempt) := by unfold Valid; rw [if_pos rfl]
 unfold doS at hx
 split at hx
 ·split at hx
  ·rename_i hn
   split at hx
   ·cases hx
    exact ⟨hg.setTry _ _ z fun h => absurd rfl h, hr.setTry ht _ _ in9_0 fun p hp => by cases hp⟩
   ·split at hx
    ·rename_i hl
     split at hx
     ·rename_i h0
      cases hx
      have hvr := hr.vote m.Node.toNat (by omega)
      have hvv := hg.vote m.Node.toNat (by omega)
      obtain ⟨k1, k2, k3, k4, k5⟩ := nextS_ok _ m.Node hn hvr.1 h0
      exact ⟨hg.begin_ _ _ _ hn ⟨hvv.1, k3, by simp, Int.le_of_lt k1⟩ hl k2 k4, hr.begin_ hv ht _ _ _ hn k5⟩
     ·cases hx
    ·cases hx
  ·cases hx
 ·split at hx
  ·split at hx
   ·rename_i ha
    have hMs : ∀ k ∈ mailS w m, k ∈ w.Mail := fun k hk => by
     unfold mailS at hk
     split at hk
     ·exact hk
     ·exact List.mem_of_mem_eraseIdx hk
    have g2 : WG { w with Mail := mailS w m } := hg.setMail _ fun k hk => .inl (hMs k hk)
    have r2 : RW { w with Mail := mailS w m } := hr.setMail _ fun k hk => .inl (hMs k hk)
    split at hx
    ·cases hx
     exact ⟨g2, r2⟩
    ·cases hx
     have hmem : w.Mail.getD m.At.toNat default ∈ w.Mail := by
      have h1 : m.At.toNat < w.Mail.length := by omega
      rw [List.getD_eq_getElem?_getD, List.getElem?_eq_getElem h1]
      exact List.getElem_mem h1
     exact ⟨g2.come _ (hg.mails _ hmem), r2.come hv ht _ (hg.mails _ hmem) (hr.mails _ hmem).1 (hr.mails _ hmem).2⟩
   ·cases hx
  ·cases hx
structure S9 (w : TWorld) : Prop where
 sm : Sm w
 mail : w.Mail.length <= 1000
 ch : w.Chosen.length <= 1000
theorem run_both : ∀ (l : List TMove) (w : TWorld), S9 w -> ∃ x : TWorld, zb8 l w.Members w.Votes w.Tries w.Mail w.Chosen = some (x.Members, x.Votes, x.Tries, x.Mail, x.Chosen) /\ zby l w.Members w.Votes w.Tries w.Mail w.Chosen = some (x.Members, x.Votes, x.Tries, x.Mail, x.Chosen) := by
 intro l
 induction l with
 | nil => exact fun w h => ⟨w, by rw [zb8], by rw [zby]⟩
 | cons m l ih =>
  intro w h
  obtain ⟨r, hr, ha⟩ := doD w m h.sm h.mail h.ch
  obtain ⟨s, hs, hb⟩ := doR w m h.sm h.mail h.ch
  rw [zb8, zby]
  show ∃ x, Option.bind (Option.bind (m_decree_Do w m) _) _ = _ /\ Option.bind (Option.bind (m_r09_Do w m) _) _ = _
  rw [hr, hs]
  simp only [Option.bind_some]
  obtain ⟨e1, e2⟩ := ha.same hb
  by_cases h0 : r.2 = 0
  ·rw [if_pos h0, if_pos (e1.1 h0), e2 h0]
   simp only [Option.bind_some]
   cases hq : doS w m with
   | none => rw [hq] at ha; exact absurd h0 ha
   | some x =>
    rw [hq] at ha
    by_cases f : Fits x
    ·have e := ha.1 f
     obtain ⟨g1, g2⟩ := doS_rw w x m h.sm hq
     rw [e]
     exact ih x ⟨⟨g1, g2, Nat.le_trans f.1 (by decide), Nat.le_trans f.2 (by decide)⟩, f.1, f.2⟩
    ·exact absurd h0 (ha.2 f)
  ·rw [if_neg h0, if_neg fun k => h0 (e1.2 k)]
   simp only [Option.bind_some]
   exact ih w h
theorem decreeRuns_law (ms : List Int) (l : List TMove) : m_w09_DecreeRuns ms l = some true := by
 obtain ⟨b, hb⟩ := long_eq l
 rw [m_w09_DecreeRuns, hb]
 by_cases hg : ((ms.length : Int) > 2000) \/ (((l.length : Int) > 150) /\ ((l.length : Int) <= 1000))
 ·simp only [hg, not_true_eq_false, if_false, Option.bind_some, true_or, if_true]
 ·simp only [hg, not_false_eq_true, if_true, Option.bind_some, false_or]
  by_cases hbt : b = true
  ·rw [if_pos hbt]
  ·rw [if_neg hbt, if_pos (by omega)]
   have hc6 := qcheck6 ms
   rw [m_decree_New, m_r09_New, m_decree_Run, m_r09_Run, m_decree_New, m_r09_New, qcheck_eq, hc6]
   simp only [Option.bind_some]
   by_cases hq : QOk ms
   ·have hz : (if ms.length > 6 then (4 : Int) else if zbt (-1) ms = true /\ ms ≠ [] then 0 else 60) = 0 := by
     rw [if_neg (by have := hq.1; omega), if_pos hq.2]
    simp only [hz, not_true_eq_false, if_false]
    have h8 : ms.length * 8 <= 140737488355328 := by have := hq.1; omega
    simp only [zah, if_pos h8, Option.bind_some, not_true_eq_false, if_false]
    have hsame := self9 (newW ms)
    change m_r09_Same ⟨ms, ((List.replicate 6 (⟨0, 0, []⟩ : TVote)).take 6), ((List.replicate 6 (⟨0, 0, [], [], [], [], []⟩ : TAttempt)).take 6), [], []⟩ ⟨ms, ((List.replicate 6 (⟨0, 0, []⟩ : TVote)).take 6), ((List.replicate 6 (⟨0, 0, [], [], [], [], []⟩ : TAttempt)).take 6), [], []⟩ = some true at hsame
    by_cases hl : (l.length : Int) > 1000
    ·simp only [if_pos hl, Option.bind_some]
     rw [hsame, self9, self_ints9]
     simp
    ·simp only [if_neg hl]
     obtain ⟨x, hx, hy⟩ := run_both l (newW ms) ⟨⟨new_good hq, new_rw ms, Nat.zero_le _, Nat.zero_le _⟩, Nat.zero_le _, Nat.zero_le _⟩
     have hx : zb8 l ms ((List.replicate 6 (⟨0, 0, []⟩ : TVote)).take 6) ((List.replicate 6 (⟨0, 0, [], [], [], [], []⟩ : TAttempt)).take 6) [] [] = _ := hx
     have hy : zby l ms ((List.replicate 6 (⟨0, 0, []⟩ : TVote)).take 6) ((List.replicate 6 (⟨0, 0, [], [], [], [], []⟩ : TAttempt)).take 6) [] [] = _ := hy
     rw [hx, hy]
     simp only [Option.bind_some]
     rw [hsame, self9, self_ints9]
     simp
   ·have hne : (if ms.length > 6 then (4 : Int) else if zbt (-1) ms = true /\ ms ≠ [] then 0 else 60) ≠ 0 := by
     intro h
     split at h
     ·simp at h
     ·rename_i h1
      split at h
      ·rename_i h2
       exact hq ⟨by omega, h2⟩
      ·simp at h
    simp only [hne, not_false_eq_true, if_true, Option.bind_some]
    rw [self9, self_ints9]
    simp
end Go.Proofs
end

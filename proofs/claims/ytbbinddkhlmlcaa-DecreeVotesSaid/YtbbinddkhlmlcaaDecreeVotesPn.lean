/- Texts of the proof. -/
import Derived.WideKeyArgs
import Derived.ChangeSame
import Derived.ChangeArms
import Derived.OpenShut
import Derived.Carry
import Derived.Test.YtbbinddkhlmlcaaRows
import Derived.WalkKit
import Derived.ProofKit
import Derived.Test.YtbbinddkhlmlcaaDecreeVotesPm
import Derived.Test.YtbbinddkhlmlcaaDecreeVotesPf
import Derived.Test.YtbbinddkhlmlcaaDecreeVotesPl
section
namespace Go.Proofs
open Go.Tm
set_option linter.unusedSimpArgs false
theorem QOk.nodes {l : List Int} (h : QOk l) : ∀ x ∈ l, 0 ≤ x ∧ x < 6 := fun x hx => by have := rises_lt l (-1) h.2.1 x hx; omega
theorem Valid.value {a : TAttempt} (h : Valid a) : a.Value.length ≤ 1024 ∧ a.Wish.length ≤ 1024 := by
  by_cases h0 : a.Phase = 0
  · unfold Valid at h
    rw [if_pos h0] at h
    subst h
    simp
  · have k := h.kept h0
    refine ⟨?_, k.wish⟩
    rcases k.value with h1 | h1
    · unfold Valid at h
      rw [if_neg h0] at h
      rcases h.1 with h2 | h2 | h2
      · rw [h2.2.1]; simp
      · omega
      · omega
    · rw [h1]
      obtain ⟨p, _, _, h4⟩ := best_spec a.Promises a.Wish 0
      rcases h4 with ⟨_, h4⟩ | ⟨h5, q, hq, h6, h7⟩
      · rw [h4]; exact k.wish
      · rw [h7]
        have := k.may q hq
        unfold MayS at this
        rw [if_neg (by omega)] at this
        exact this.2.2
structure WG (w : TWorld) : Prop where
  mem : QOk w.Members
  vts : w.Votes.length = 6
  trs : w.Tries.length = 6
  vote : ∀ i : Nat, i < 6 → VOk (w.Votes.getD i default) ∧ 0 ≤ (w.Votes.getD i default).Promised ∧ 0 ≤ (w.Votes.getD i default).Ballot
  try_ : ∀ i : Nat, i < 6 → Valid (w.Tries.getD i default) ∧ ((w.Tries.getD i default).Phase ≠ 0 → ownB (w.Tries.getD i default).Ballot = i ∧ (w.Tries.getD i default).Members = w.Members)
  mails : ∀ m ∈ w.Mail, MOk m
  chs : ∀ c ∈ w.Chosen, (0 ≤ c.Node ∧ c.Node < 6) ∧ c.Value.length ≤ 1024
theorem WG.ok {w : TWorld} (h : WG w) (h1 : w.Mail.length ≤ 1000) (h2 : w.Chosen.length ≤ 1000) : WOk w :=
  ⟨h.mem, h.vts, h.trs, h1, h2, fun i hi => (h.vote i hi).1, h.try_, h.mails, h.chs⟩
theorem getD_set_ne {α : Type} (l : List α) (n i : Nat) (a d : α) (h : i ≠ n) : (l.set n a).getD i d = l.getD i d := by
  simp [List.getD, List.getElem?_set_ne (Ne.symm h)]
theorem WG.setVote {w : TWorld} (h : WG w) (n : Nat) (v : TVote) (hv : VOk v) (h1 : 0 ≤ v.Promised) (h2 : 0 ≤ v.Ballot) : WG { w with Votes := w.Votes.set n v } where
  mem := h.mem
  vts := by simpa using h.vts
  trs := h.trs
  vote i hi := by
    have hl := h.vts
    by_cases e : i = n
    · subst e
      show VOk ((w.Votes.set i v).getD i default) ∧ 0 ≤ ((w.Votes.set i v).getD i default).Promised ∧ 0 ≤ ((w.Votes.set i v).getD i default).Ballot
      rw [getD_set_same _ _ _ _ (by omega)]
      exact ⟨hv, h1, h2⟩
    · show VOk ((w.Votes.set n v).getD i default) ∧ 0 ≤ ((w.Votes.set n v).getD i default).Promised ∧ 0 ≤ ((w.Votes.set n v).getD i default).Ballot
      rw [getD_set_ne _ _ _ _ _ e]
      exact h.vote i hi
  try_ := h.try_
  mails := h.mails
  chs := h.chs
theorem WG.setTry {w : TWorld} (h : WG w) (n : Nat) (a : TAttempt) (hv : Valid a) (h1 : a.Phase ≠ 0 → ownB a.Ballot = n ∧ a.Members = w.Members) : WG { w with Tries := w.Tries.set n a } where
  mem := h.mem
  vts := h.vts
  trs := by simpa using h.trs
  vote := h.vote
  try_ i hi := by
    have hl := h.trs
    by_cases e : i = n
    · subst e
      show Valid ((w.Tries.set i a).getD i default) ∧ (((w.Tries.set i a).getD i default).Phase ≠ 0 → ownB ((w.Tries.set i a).getD i default).Ballot = i ∧ ((w.Tries.set i a).getD i default).Members = w.Members)
      rw [getD_set_same _ _ _ _ (by omega)]
      exact ⟨hv, h1⟩
    · show Valid ((w.Tries.set n a).getD i default) ∧ (((w.Tries.set n a).getD i default).Phase ≠ 0 → ownB ((w.Tries.set n a).getD i default).Ballot = i ∧ ((w.Tries.set n a).getD i default).Members = w.Members)
      rw [getD_set_ne _ _ _ _ _ e]
      exact h.try_ i hi
  mails := h.mails
  chs := h.chs
theorem WG.setMail {w : TWorld} (h : WG w) (M : List TMail) (hM : ∀ m ∈ M, m ∈ w.Mail ∨ MOk m) : WG { w with Mail := M } :=
  ⟨h.mem, h.vts, h.trs, h.vote, h.try_, fun m hm => (hM m hm).elim (h.mails m) id, h.chs⟩
theorem WG.tell {w : TWorld} (h : WG w) (m : TMail) (h1 : 0 ≤ m.From ∧ m.From < 6) (h2 : 1 ≤ m.Kind ∧ m.Kind ≤ 5) (h3 : BOk m.Ballot) (h4 : 0 ≤ m.Prior) (h5 : m.Value.length ≤ 1024) (h6 : m.Group = 0 ∧ m.Slot = 0 ∧ m.Id = 0 ∧ m.Time = 0) : WG (tellS w m) := by
  refine h.setMail _ fun k hk => ?_
  rcases List.mem_append.1 hk with hk | hk
  · exact .inl hk
  · obtain ⟨to, hto, rfl⟩ := List.mem_map.1 hk
    have := h.mem.nodes to (List.mem_filter.1 hto).1
    exact .inr ⟨h1, this, h2.1, h2.2, h3, h4, h5, h6.1, h6.2.1, h6.2.2.1, h6.2.2.2⟩
theorem WG.taken {w : TWorld} (h : WG w) (n b q : Int) (hn : 0 ≤ n ∧ n < 6) : WG (takenW w n b q) := by
  unfold takenW
  split
  case isFalse => exact h
  rename_i hc
  have hk := accepted_kept (a := trW w n) (n := q) ⟨hc.1, hc.2.1, rfl, hc.2.2.2⟩
  have ht := (h.try_ n.toNat (by omega)).2 (by have := hc.2.1; show (trW w n).Phase ≠ 0; omega)
  have h2 := h.setTry n.toNat (acceptedS (trW w n) q) hk.1 fun _ => ht
  refine ⟨h2.mem, h2.vts, h2.trs, h2.vote, h2.try_, h2.mails, fun c hcm => ?_⟩
  have hcm : c ∈ (if (acceptedS (trW w n) q).Phase = 3 ∧ (trW w n).Phase ≠ 3 then w.Chosen ++ [⟨n, (acceptedS (trW w n) q).Value⟩] else w.Chosen) := hcm
  split at hcm
  · rcases List.mem_append.1 hcm with hcm | hcm
    · exact h.chs c hcm
    · rw [List.mem_singleton] at hcm
      subst hcm
      exact ⟨hn, hk.1.value.1⟩
  · exact h.chs c hcm
theorem VOk.acc {b : Int} {v : List UInt8} (hb : BOk b) (hv : v.length ≤ 1024) (h0 : 0 < b) : VOk ⟨b, b, v⟩ := by
  refine ⟨.inr hb, ?_⟩
  show if b = 0 then _ else _
  rw [if_neg (by omega)]
  exact ⟨hb, Int.le_refl _, hv⟩
theorem VOk.prep {v : TVote} (h : VOk v) {b : Int} (hb : BOk b) (hle : v.Promised ≤ b) : VOk { v with Promised := b } := by
  refine ⟨.inr hb, ?_⟩
  have := h.2
  show if v.Ballot = 0 then v.Value = [] else BOk v.Ballot ∧ v.Ballot ≤ b ∧ v.Value.length ≤ 1024
  split
  · rename_i h0; rw [if_pos h0] at this; exact this
  · rename_i h0; rw [if_neg h0] at this; exact ⟨this.1, by omega, this.2.2⟩
theorem VOk.value {v : TVote} (h : VOk v) : v.Value.length ≤ 1024 := by
  have := h.2
  split at this
  · rw [this]; simp
  · exact this.2.2
theorem BOk.ne {b : Int} (h : BOk b) : b ≠ 0 := by
  rintro rfl
  exact h.1 (.inl (by decide +kernel))
theorem WG.ownVote {w : TWorld} (h : WG w) (n b : Int) (v : List UInt8) (hn : 0 ≤ n ∧ n < 6) : WG (ownVote w n b v) := by
  unfold Go.Proofs.ownVote
  split
  case isFalse => exact h
  rename_i hc
  have h1 : 0 ≤ (vtW w n).Promised := (h.vote n.toNat (by omega)).2.1
  have hb := hc.2.2.1.ne
  have hle := hc.2.2.2.2
  exact (h.setVote n.toNat ⟨b, b, v⟩ (VOk.acc hc.2.2.1 hc.2.2.2.1 (by omega)) (by show 0 ≤ b; omega) (by show 0 ≤ b; omega)).taken n b n hn
theorem WG.promised {w : TWorld} (h : WG w) (n b : Int) (p : TPromise) (hn : 0 ≤ n ∧ n < 6) : WG (promisedW w n b p) := by
  unfold promisedW
  split
  case isFalse => exact h
  rename_i hc
  have hk := promised_kept (a := trW w n) (p := p) ⟨hc.1, hc.2.1, rfl, hc.2.2.2.1, hc.2.2.1 ▸ hc.2.2.2.2⟩
  obtain ⟨e1, e2, _, _⟩ := promisedS_same (trW w n) p
  have ht := (h.try_ n.toNat (by omega)).2 (by have := hc.2.1; show (trW w n).Phase ≠ 0; omega)
  have h2 := h.setTry n.toNat (promisedS (trW w n) p) hk fun _ => ⟨e1 ▸ ht.1, e2.trans ht.2⟩
  split
  · exact h2
  · have hkb : BOk b := hc.2.2.1 ▸ (hc.1.kept (by have := hc.2.1; omega)).ballot
    exact (h2.tell ⟨n, 0, 3, 0, 0, b, 0, (promisedS (trW w n) p).Value, 0, 0⟩ hn ⟨by simp, by simp⟩ hkb (by simp) hk.value.1 ⟨rfl, rfl, rfl, rfl⟩).ownVote n b _ hn
theorem WG.begin_ {w : TWorld} (h : WG w) (n b : Int) (t : List UInt8) (hn : 0 ≤ n ∧ n < 6) (ha : AskedS (vtW w n) b []) (ht : t.length ≤ 1024) (hb : 8 ≤ b) (ho : ownB b = n.toNat) : WG (beginW w n b t) := by
  unfold beginW
  have hv := h.vote n.toNat (by omega)
  have h1 := h.setVote n.toNat { vtW w n with Promised := b } (ha.1.prep ha.2.1 ha.2.2.2) (by show 0 ≤ b; omega) hv.2.2
  have hbv : Valid ⟨1, b, w.Members, t, [], [], []⟩ := by
    unfold Valid
    rw [if_neg (by simp)]
    exact ⟨.inl ⟨rfl, rfl, rfl⟩, ⟨ha.2.1, h.mem, ht, rfl, rfl, (fun p hp => by cases hp), by simpa using most_nil w.Members, by simpa using most_nil w.Members, .inl rfl⟩⟩
  have h2 := h1.setTry n.toNat ⟨1, b, w.Members, t, [], [], []⟩ hbv fun _ => ⟨ho, rfl⟩
  exact (h2.tell ⟨n, 0, 1, 0, 0, b, 0, [], 0, 0⟩ hn ⟨by simp, by simp⟩ ha.2.1 (by simp) (by simp) ⟨rfl, rfl, rfl, rfl⟩).promised n b _ hn
theorem WG.come {w : TWorld} (h : WG w) (m : TMail) (hm : MOk m) : WG (comeW w m) := by
  obtain ⟨hf, hto, hk1, hk2, hb, hp, hval, _⟩ := hm
  have hv := h.vote m.To.toNat (by omega)
  have hadd : ∀ (w2 : TWorld) (k : TMail), WG w2 → MOk k → WG (addMail w2 k) := by
    intro w2 k h2 hk
    refine h2.setMail _ fun x hx => ?_
    rcases List.mem_append.1 hx with hx | hx
    · exact .inl hx
    · rw [List.mem_singleton] at hx
      subst hx
      exact .inr hk
  have href : MOk ⟨m.To, m.From, 5, 0, 0, m.Ballot, (vtW w m.To).Promised, [], 0, 0⟩ := ⟨hto, hf, by simp, by simp, hb, hv.2.1, by simp, rfl, rfl, rfl, rfl⟩
  unfold comeW
  split
  · exact h.promised _ _ _ hto
  split
  · exact h.taken _ _ _ hto
  split
  · exact h
  split
  · split
    · rename_i hc
      have h1 := h.setVote m.To.toNat { vtW w m.To with Promised := m.Ballot } (hc.1.prep hc.2.1 hc.2.2.2) (by have := hc.2.2.2; have := hv.2.1; show 0 ≤ m.Ballot; exact Int.le_trans hv.2.1 hc.2.2.2) hv.2.2
      exact hadd _ _ h1 ⟨hto, hf, by simp, by simp, hb, hv.2.2, hv.1.value, rfl, rfl, rfl, rfl⟩
    · exact hadd _ _ h href
  split
  · rename_i hc
    have hle : 0 ≤ m.Ballot := Int.le_trans hv.2.1 hc.2.2.2
    have hne := hb.ne
    have h1 := h.setVote m.To.toNat ⟨m.Ballot, m.Ballot, m.Value⟩ (VOk.acc hb hval (by omega)) hle hle
    exact hadd _ _ h1 ⟨hto, hf, by simp, by simp, hb, by simp, by simp, rfl, rfl, rfl, rfl⟩
  · exact hadd _ _ h href
end Go.Proofs
end
section
namespace Go.Proofs
open Go.Tm
set_option linter.unusedSimpArgs false
inductive Moved (w : TWorld) (m : TMove) (x : TWorld) : Prop where
  | crash (hn : 0 ≤ m.Node ∧ m.Node < 6) (hx : x = { w with Tries := w.Tries.set m.Node.toNat ⟨0, 0, [], [], [], [], []⟩ })
  | start (hk : m.Kind = 1) (hn : 0 ≤ m.Node ∧ m.Node < 6) (b : Int) (ha : AskedS (vtW w m.Node) b []) (ht : m.Value.length ≤ 1024) (h0 : 0 ≤ (vtW w m.Node).Promised) (hlt : (vtW w m.Node).Promised < b) (h8 : 8 ≤ b) (ho : ownB b = m.Node.toNat) (hx : x = beginW w m.Node b m.Value)
  | drop (M : List TMail) (hM : ∀ k ∈ M, k ∈ w.Mail) (hx : x = { w with Mail := M })
  | come (M : List TMail) (hM : ∀ k ∈ M, k ∈ w.Mail) (k : TMail) (hk : k ∈ w.Mail) (hx : x = comeW { w with Mail := M } k)
def noWorld : TWorld := ⟨[], [], [], [], []⟩
theorem WOk.shape {w : TWorld} (h : WOk w) : Shape w 1000 := ⟨h.mem.1, h.vts, h.trs, h.mail, h.ch⟩
theorem full_eq {w x : TWorld} {m : TMove} (hm : Moved w m x) : ∃ r, (if ((x.Mail.length : Int) > 1000) ∨ ((x.Chosen.length : Int) > 1000) then
  some ((⟨[], [], [], [], []⟩ : TWorld), (9 : Int))
  else
  some ((⟨x.Members, x.Votes, x.Tries, x.Mail, x.Chosen⟩ : TWorld), 0)) = some r ∧ (r.2 ≠ 0 → r.1 = noWorld) ∧ (r.2 = 0 → r.1.Mail.length ≤ 1000 ∧ r.1.Chosen.length ≤ 1000 ∧ Moved w m r.1) := by
  by_cases h : ((x.Mail.length : Int) > 1000) ∨ ((x.Chosen.length : Int) > 1000)
  · exact ⟨_, if_pos h, fun _ => rfl, fun h => by simp at h⟩
  · refine ⟨_, if_neg h, fun h => by simp at h, fun _ => ⟨?_, ?_, hm⟩⟩
    · show x.Mail.length ≤ 1000; omega
    · show x.Chosen.length ≤ 1000; omega
theorem do_eq (w : TWorld) (m : TMove) (h : WOk w) : ∃ r, m_decree_Do w m = some r ∧ (r.2 ≠ 0 → r.1 = noWorld) ∧ (r.2 = 0 → r.1.Mail.length ≤ 1000 ∧ r.1.Chosen.length ≤ 1000 ∧ Moved w m r.1) := by
  obtain ⟨e, he, hok⟩ := dcheck_eq w h.proms
  have hs := h.shape
  rw [m_decree_Do, he]
  simp only [Option.bind_some]
  rw [if_neg (by simpa using hok.2 h), dtwin_eq h]
  simp only [Option.bind_some]
  have err : ∀ e : Int, e ≠ 0 → ∃ r, some ((⟨[], [], [], [], []⟩ : TWorld), e) = some r ∧ (r.2 ≠ 0 → r.1 = noWorld) ∧ (r.2 = 0 → r.1.Mail.length ≤ 1000 ∧ r.1.Chosen.length ≤ 1000 ∧ Moved w m r.1) := fun e he => ⟨_, rfl, fun _ => rfl, fun h => absurd h he⟩
  have hb1 : (if m.Kind = 1 then some (m.Kind == 1) else some (m.Kind == 5)) = some (decide (m.Kind = 1 ∨ m.Kind = 5)) := by
    by_cases h1 : m.Kind = 1 <;> by_cases h5 : m.Kind = 5 <;> simp [h1, h5]
  have hb2 : (if m.Kind = 2 then some (m.Kind == 2) else if m.Kind = 3 then some (m.Kind == 3) else some (m.Kind == 4)) = some (decide (m.Kind = 2 ∨ m.Kind = 3 ∨ m.Kind = 4)) := by
    by_cases h1 : m.Kind = 2 <;> by_cases h5 : m.Kind = 3 <;> by_cases h6 : m.Kind = 4 <;> simp [h1, h5, h6]
  rw [hb1]
  simp only [Option.bind_some, decide_eq_true_eq]
  by_cases k1 : m.Kind = 1 ∨ m.Kind = 5
  · rw [if_pos k1, node_eq]
    simp only [Option.bind_some, decide_eq_true_eq]
    by_cases hn : 0 ≤ m.Node ∧ m.Node < 6
    · rw [if_neg (by simpa using hn)]
      by_cases k5 : m.Kind = 5
      · rw [if_pos k5, if_pos (by have := hs.trs; omega)]
        exact full_eq (x := { w with Tries := w.Tries.set m.Node.toNat ⟨0, 0, [], [], [], [], []⟩ }) (.crash hn rfl)
      · rw [if_neg k5]
        by_cases hl : (m.Value.length : Int) > 1024
        · rw [if_pos hl]
          exact err 3 (by decide)
        · rw [if_neg hl]
          obtain ⟨r, hr, h1⟩ := beginW_eq w m.Node m.Value hn hs
          rw [hr]
          simp only [Option.bind_some]
          by_cases h0 : r.1 = 0
          · obtain ⟨b, _, a1, a2, a3, a4, a5, a6, a7⟩ := h1 h0
            rw [if_neg (by simpa using h0), a7]
            exact full_eq (x := beginW w m.Node b m.Value) (.start (k1.resolve_right k5) hn b a1 a2 a3 a4 a5 a6 rfl)
          · rw [if_pos h0]
            exact err _ h0
    · rw [if_pos hn]
      exact err 2 (by decide)
  · rw [if_neg k1, hb2]
    simp only [Option.bind_some, decide_eq_true_eq]
    by_cases k2 : m.Kind = 2 ∨ m.Kind = 3 ∨ m.Kind = 4
    · rw [if_pos k2]
      by_cases ha : (m.At < 0) ∨ (m.At ≥ (w.Mail.length : Int))
      · rw [if_pos ha]
        exact err 6 (by decide)
      · rw [if_neg ha, if_pos (by omega)]
        have hmem : w.Mail.getD m.At.toNat default ∈ w.Mail := by
          have h1 : m.At.toNat < w.Mail.length := by omega
          rw [List.getD_eq_getElem?_getD, List.getElem?_eq_getElem h1]
          exact List.getElem_mem h1
        have hM : ∃ M, (if ¬ (m.Kind = 3) then
  if 0 ≤ m.At ∧ m.At < (w.Mail.length : Int) then
  if w.Mail.length < 1000000 then
  some (w.Mail.eraseIdx m.At.toNat)
  else none
  else none
  else
  some w.Mail) = some M ∧ (∀ k ∈ M, k ∈ w.Mail) ∧ M.length ≤ w.Mail.length := by
          by_cases k3 : m.Kind = 3
          · exact ⟨w.Mail, by rw [if_neg (by simpa using k3)], fun _ h => h, Nat.le_refl _⟩
          · exact ⟨_, by rw [if_pos k3, if_pos (by omega), if_pos (by have := hs.mail; omega)], fun k hk => List.mem_of_mem_eraseIdx hk, List.length_eraseIdx_le ..⟩
        obtain ⟨M, e1, e2, e3⟩ := hM
        rw [e1]
        simp only [Option.bind_some]
        by_cases k4 : m.Kind = 4
        · rw [if_neg (by simpa using k4)]
          exact full_eq (x := { w with Mail := M }) (.drop M e2 rfl)
        · rw [if_pos k4]
          have e := comeW_eq { w with Mail := M } (w.Mail.getD m.At.toNat default) (h.mails _ hmem) ⟨hs.mem, hs.vts, hs.trs, Nat.le_trans e3 hs.mail, hs.ch⟩ h.proms
          rw [e]
          simp only [Option.bind_some]
          exact full_eq (x := comeW { w with Mail := M } (w.Mail.getD m.At.toNat default)) (.come M e2 _ hmem rfl)
    · rw [if_neg k2]
      exact err 2 (by decide)
theorem Moved.good {w x : TWorld} {m : TMove} (hm : Moved w m x) (h : WG w) : WG x := by
  cases hm with
  | crash hn hx => subst hx; exact h.setTry _ _ (by unfold Valid; rw [if_pos rfl]) fun h => absurd rfl h
  | start hk hn b ha ht h0 hlt h8 ho hx => subst hx; exact h.begin_ _ _ _ hn ha ht h8 ho
  | drop M hM hx => subst hx; exact h.setMail M fun k hk => .inl (hM k hk)
  | come M hM k hk hx => subst hx; exact (h.setMail M fun k hk => .inl (hM k hk)).come k (h.mails k hk)
end Go.Proofs
end
section
namespace Go.Proofs
open Go.Tm
set_option linter.unusedSimpArgs false
end Go.Proofs
end
section
namespace Go.Proofs
open Go.Tm
set_option linter.unusedSimpArgs false
def In64 (x : Int) : Prop := -9223372036854775808 ≤ x ∧ x ≤ 9223372036854775807
theorem BOk.nonneg {b : Int} (h : BOk b) (hr : In64 b) : 0 ≤ b := by
  by_cases h0 : 0 ≤ b
  · exact h0
  · exfalso
    have h1 : b.tdiv 8 = -((-b) / 8) := by
      rw [← Int.neg_neg b, Int.neg_tdiv, Int.tdiv_eq_ediv_of_nonneg (by omega), Int.neg_neg]
    have h2 := h.1
    unfold In64 at hr
    rw [h1, wr64 _ (by omega)] at h2
    omega
theorem WOk.wg {w : TWorld} (h : WOk w) (hr : ∀ v ∈ w.Votes, In64 v.Promised ∧ In64 v.Ballot) : WG w := by
  refine ⟨h.mem, h.vts, h.trs, fun i hi => ⟨h.vote i hi, ?_⟩, h.try_, h.mails, h.chs⟩
  have hl : i < w.Votes.length := by rw [h.vts]; exact hi
  have hm : w.Votes.getD i default ∈ w.Votes := by
    rw [List.getD_eq_getElem?_getD, List.getElem?_eq_getElem hl]
    exact List.getElem_mem hl
  have hv := h.vote i hi
  have h1 := hr _ hm
  constructor
  · rcases hv.1 with h2 | h2
    · omega
    · exact h2.nonneg h1.1
  · have h3 := hv.2
    split at h3
    · omega
    · exact h3.1.nonneg h1.2
structure Turn (n : Nat) (w x : TWorld) : Prop where
  same : ∀ i, i ≠ n → x.Votes.getD i default = w.Votes.getD i default
  prom : (w.Votes.getD n default).Promised ≤ (x.Votes.getD n default).Promised
  bal : (w.Votes.getD n default).Ballot ≤ (x.Votes.getD n default).Ballot
  ch : w.Chosen.length ≤ x.Chosen.length
theorem Turn.rfl' {n : Nat} {w x : TWorld} (h : x.Votes = w.Votes) (hc : w.Chosen.length ≤ x.Chosen.length) : Turn n w x :=
  ⟨fun _ _ => by rw [h], by rw [h]; exact Int.le_refl _, by rw [h]; exact Int.le_refl _, hc⟩
theorem Turn.trans {n : Nat} {w x y : TWorld} (h : Turn n w x) (k : Turn n x y) : Turn n w y :=
  ⟨fun i hi => (k.same i hi).trans (h.same i hi), Int.le_trans h.prom k.prom, Int.le_trans h.bal k.bal, Nat.le_trans h.ch k.ch⟩
theorem turn_set (w : TWorld) (n : Nat) (v : TVote) (hn : n < w.Votes.length) (h1 : (w.Votes.getD n default).Promised ≤ v.Promised) (h2 : (w.Votes.getD n default).Ballot ≤ v.Ballot) : Turn n w { w with Votes := w.Votes.set n v } := by
  refine ⟨fun i hi => getD_set_ne _ _ _ _ _ hi, ?_, ?_, Nat.le_refl _⟩
  · show _ ≤ ((w.Votes.set n v).getD n default).Promised
    rw [getD_set_same _ _ _ _ hn]
    exact h1
  · show _ ≤ ((w.Votes.set n v).getD n default).Ballot
    rw [getD_set_same _ _ _ _ hn]
    exact h2
theorem turn_taken (w : TWorld) (k : Nat) (n b q : Int) : Turn k w (takenW w n b q) := by
  unfold takenW
  split
  · refine Turn.rfl' rfl ?_
    show w.Chosen.length ≤ (if _ then _ else _ : List TChoice).length
    split
    · simp
    · exact Nat.le_refl _
  · exact Turn.rfl' rfl (Nat.le_refl _)
theorem VOk.le {v : TVote} (h : VOk v) (h0 : 0 ≤ v.Promised) : v.Ballot ≤ v.Promised := by
  have := h.2
  split at this
  · omega
  · exact this.2.1
theorem turn_own {w : TWorld} (h : WG w) (n b : Int) (v : List UInt8) (hn : 0 ≤ n ∧ n < 6) : Turn n.toNat w (ownVote w n b v) := by
  unfold ownVote
  split
  · rename_i hc
    have hle := hc.2.2.2.2
    have hv := h.vote n.toNat (by omega)
    have hb := hv.1.le hv.2.1
    exact (turn_set w n.toNat ⟨b, b, v⟩ (by rw [h.vts]; omega) hle (Int.le_trans hb hle)).trans (turn_taken _ _ _ _ _)
  · exact Turn.rfl' rfl (Nat.le_refl _)
theorem turn_promised {w : TWorld} (h : WG w) (n b : Int) (p : TPromise) (hn : 0 ≤ n ∧ n < 6) : Turn n.toNat w (promisedW w n b p) := by
  unfold promisedW
  split
  case isFalse => exact Turn.rfl' rfl (Nat.le_refl _)
  rename_i hc
  have hk := promised_kept (a := trW w n) (p := p) ⟨hc.1, hc.2.1, rfl, hc.2.2.2.1, hc.2.2.1 ▸ hc.2.2.2.2⟩
  obtain ⟨e1, e2, _, _⟩ := promisedS_same (trW w n) p
  have ht := (h.try_ n.toNat (by omega)).2 (by have := hc.2.1; show (trW w n).Phase ≠ 0; omega)
  have h2 := h.setTry n.toNat (promisedS (trW w n) p) hk fun _ => ⟨e1 ▸ ht.1, e2.trans ht.2⟩
  have t1 : Turn n.toNat w { w with Tries := w.Tries.set n.toNat (promisedS (trW w n) p) } := Turn.rfl' rfl (Nat.le_refl _)
  split
  · exact t1
  · have hkb : BOk b := hc.2.2.1 ▸ (hc.1.kept (by have := hc.2.1; omega)).ballot
    have h3 := h2.tell ⟨n, 0, 3, 0, 0, b, 0, (promisedS (trW w n) p).Value, 0, 0⟩ hn ⟨by simp, by simp⟩ hkb (by simp) hk.value.1 ⟨rfl, rfl, rfl, rfl⟩
    refine t1.trans ?_
    refine Turn.trans (x := tellS { w with Tries := w.Tries.set n.toNat (promisedS (trW w n) p) } ⟨n, 0, 3, 0, 0, b, 0, (promisedS (trW w n) p).Value, 0, 0⟩) ?_ ?_
    · exact Turn.rfl' rfl (Nat.le_refl _)
    · exact turn_own h3 n b _ hn
theorem turn_begin {w : TWorld} (h : WG w) (n b : Int) (t : List UInt8) (hn : 0 ≤ n ∧ n < 6) (ha : AskedS (vtW w n) b []) (ht : t.length ≤ 1024) (hb : 8 ≤ b) (ho : ownB b = n.toNat) : Turn n.toNat w (beginW w n b t) := by
  unfold beginW
  have hv := h.vote n.toNat (by omega)
  have h1 := h.setVote n.toNat { vtW w n with Promised := b } (ha.1.prep ha.2.1 ha.2.2.2) (by show 0 ≤ b; omega) hv.2.2
  have hbv : Valid ⟨1, b, w.Members, t, [], [], []⟩ := by
    unfold Valid
    rw [if_neg (by simp)]
    exact ⟨.inl ⟨rfl, rfl, rfl⟩, ⟨ha.2.1, h.mem, ht, rfl, rfl, (fun p hp => by cases hp), by simpa using most_nil w.Members, by simpa using most_nil w.Members, .inl rfl⟩⟩
  have h2 := h1.setTry n.toNat ⟨1, b, w.Members, t, [], [], []⟩ hbv fun _ => ⟨ho, rfl⟩
  have h3 := h2.tell ⟨n, 0, 1, 0, 0, b, 0, [], 0, 0⟩ hn ⟨by simp, by simp⟩ ha.2.1 (by simp) (by simp) ⟨rfl, rfl, rfl, rfl⟩
  have t1 := turn_set w n.toNat { vtW w n with Promised := b } (by rw [h.vts]; omega) ha.2.2.2 (Int.le_refl _)
  refine t1.trans ?_
  refine Turn.trans (x := tellS { w with Votes := w.Votes.set n.toNat { vtW w n with Promised := b }, Tries := w.Tries.set n.toNat ⟨1, b, w.Members, t, [], [], []⟩ } ⟨n, 0, 1, 0, 0, b, 0, [], 0, 0⟩) ?_ ?_
  · exact Turn.rfl' rfl (Nat.le_refl _)
  · exact turn_promised h3 n b _ hn
theorem turn_come {w : TWorld} (h : WG w) (m : TMail) (hm : MOk m) : Turn m.To.toNat w (comeW w m) := by
  obtain ⟨_, hto, _⟩ := hm
  have hl : m.To.toNat < w.Votes.length := by rw [h.vts]; omega
  have hv := h.vote m.To.toNat (by omega)
  unfold comeW
  split
  · exact turn_promised h _ _ _ hto
  split
  · exact turn_taken _ _ _ _ _
  split
  · exact Turn.rfl' rfl (Nat.le_refl _)
  split
  · split
    · rename_i hc
      exact (turn_set w m.To.toNat { vtW w m.To with Promised := m.Ballot } hl hc.2.2.2 (Int.le_refl _)).trans (Turn.rfl' rfl (Nat.le_refl _))
    · exact Turn.rfl' rfl (Nat.le_refl _)
  split
  · rename_i hc
    exact (turn_set w m.To.toNat ⟨m.Ballot, m.Ballot, m.Value⟩ hl hc.2.2.2 (Int.le_trans (hv.1.le hv.2.1) hc.2.2.2)).trans (Turn.rfl' rfl (Nat.le_refl _))
  · exact Turn.rfl' rfl (Nat.le_refl _)
theorem Moved.turn {w x : TWorld} {m : TMove} (hm : Moved w m x) (h : WG w) : ∃ n, Turn n w x := by
  cases hm with
  | crash hn hx => subst hx; exact ⟨0, Turn.rfl' rfl (Nat.le_refl _)⟩
  | start hk hn b ha ht h0 hlt h8 ho hx => subst hx; exact ⟨_, turn_begin h _ _ _ hn ha ht h8 ho⟩
  | drop M hM hx => subst hx; exact ⟨0, Turn.rfl' rfl (Nat.le_refl _)⟩
  | come M hM k hk hx =>
    subst hx
    have t : Turn k.To.toNat w { w with Mail := M } := Turn.rfl' rfl (Nat.le_refl _)
    exact ⟨_, t.trans (turn_come (h.setMail M fun k hk => .inl (hM k hk)) k (h.mails k hk))⟩
end Go.Proofs
end
section
namespace Go.Proofs
open Go.Tm
set_option linter.unusedSimpArgs false
theorem g8_loop (l : List TPromise) : ∀ n acc, ∃ r, m_towncrierref08_Great_loop1 l n acc = some r := by
  induction l with
  | nil => intro n acc; exact ⟨_, m_towncrierref08_Great_loop1_n n acc⟩
  | cons y l ih =>
    intro n acc
    rw [m_towncrierref08_Great_loop1_c]
    split
    · exact ih _ _
    · exact ⟨_, rfl⟩
theorem g8_eq (a : TAttempt) : ∃ b, m_towncrierref08_Great a = some b ∧ (b = false → a.Promises.length ≤ 1000) := by
  obtain ⟨r, hr⟩ := g8_loop a.Promises 0 (wr .i64 ((a.Wish.length : Int) + (a.Value.length : Int)))
  rw [m_towncrierref08_Great, hr]
  refine ⟨_, rfl, fun h => ?_⟩
  simp only [Bool.or_eq_false_iff, decide_eq_false_iff_not] at h
  omega
theorem g9_1 (l : List TMail) : ∀ n acc, ∃ r, m_towncrierref09_Great_loop1 l n acc = some r := by
  induction l with
  | nil => intro n acc; exact ⟨_, m_towncrierref09_Great_loop1_n n acc⟩
  | cons y l ih =>
    intro n acc
    rw [m_towncrierref09_Great_loop1_c]
    split
    · exact ih _ _
    · exact ⟨_, rfl⟩
theorem g9_2 (l : List TChoice) : ∀ n acc, ∃ r, m_towncrierref09_Great_loop2 l n acc = some r := by
  induction l with
  | nil => intro n acc; exact ⟨_, m_towncrierref09_Great_loop2_n n acc⟩
  | cons y l ih =>
    intro n acc
    rw [m_towncrierref09_Great_loop2_c]
    split
    · exact ih _ _
    · exact ⟨_, rfl⟩
theorem g9_4 (l : List TVote) : ∀ n acc, ∃ r, m_towncrierref09_Great_loop4 l n acc = some r := by
  induction l with
  | nil => intro n acc; exact ⟨_, m_towncrierref09_Great_loop4_n n acc⟩
  | cons y l ih =>
    intro n acc
    rw [m_towncrierref09_Great_loop4_c]
    split
    · exact ih _ _
    · exact ⟨_, rfl⟩
theorem g9_3 (l : List TAttempt) : ∀ n, (m_towncrierref09_Great_loop3 l n = some (.inl true)) ∨ (m_towncrierref09_Great_loop3 l n = some (.inr ()) ∧ (n + l.length ≤ 20 → ∀ t ∈ l, t.Promises.length ≤ 1000)) := by
  induction l with
  | nil => intro n; exact .inr ⟨by rw [m_towncrierref09_Great_loop3], fun _ t ht => by cases ht⟩
  | cons y l ih =>
    intro n
    obtain ⟨b, hb, h1⟩ := g8_eq y
    rw [m_towncrierref09_Great_loop3, hb]
    simp only [Option.bind_some]
    by_cases hn : (n : Int) < 20
    · rw [if_pos hn]
      by_cases h2 : b = true
      · rw [if_pos h2]
        exact .inl rfl
      · rw [if_neg h2]
        rcases ih (n + 1) with h3 | ⟨h3, h4⟩
        · exact .inl h3
        · refine .inr ⟨h3, fun hl t ht => ?_⟩
          rcases List.mem_cons.1 ht with rfl | ht
          · exact h1 (by simpa using h2)
          · exact h4 (by simp only [List.length_cons] at hl; omega) t ht
    · rw [if_neg hn]
      exact .inr ⟨rfl, fun hl => by simp only [List.length_cons] at hl; omega⟩
theorem great9 (w : TWorld) : ∃ b, m_towncrierref09_Great w = some b ∧ (b = false → ∀ t ∈ w.Tries, t.Promises.length < 1000000) := by
  rw [m_towncrierref09_Great]
  obtain ⟨r1, h1⟩ := g9_1 w.Mail 0 0
  obtain ⟨r2, h2⟩ := g9_2 w.Chosen 0 r1
  rw [h1]
  simp only [Option.bind_some]
  rw [h2]
  simp only [Option.bind_some]
  rcases g9_3 w.Tries 0 with h3 | ⟨h3, h4⟩
  · rw [h3]
    exact ⟨true, rfl, fun h => by cases h⟩
  · rw [h3]
    obtain ⟨r4, h5⟩ := g9_4 w.Votes 0 r2
    simp only [Option.bind_some]
    rw [h5]
    refine ⟨_, rfl, fun h t ht => ?_⟩
    simp only [Bool.or_eq_false_iff, decide_eq_false_iff_not] at h
    have := h4 (by omega) t ht
    omega
theorem votes_loop (w : TWorld) (r : TWorld × Int) (n : Nat) (hw : w.Votes.length = 6) (hx : r.1.Votes.length = 6) (ht : Turn n w r.1) : ∀ (k i fu : Nat) (c : Int), i + k = 6 → k < fu → 0 ≤ c → c ≤ (if n < i then 1 else 0) → ∃ q : Int, m_towncrierlaw09_DecreeVotes_loop1 w r fu c (i : Int) = some (.inr q) ∧ q ≤ 1 := by
  intro k
  induction k with
  | zero =>
    intro i fu c hi hf _ hc
    obtain ⟨f, rfl⟩ : ∃ f, fu = f + 1 := ⟨fu - 1, by omega⟩
    rw [m_towncrierlaw09_DecreeVotes_loop1, if_neg (by omega)]
    refine ⟨c, rfl, ?_⟩
    split at hc <;> omega
  | succ k ih =>
    intro i fu c hi hf h0 hc
    obtain ⟨f, rfl⟩ : ∃ f, fu = f + 1 := ⟨fu - 1, by omega⟩
    have hc1 : c ≤ 1 := by split at hc <;> omega
    rw [m_towncrierlaw09_DecreeVotes_loop1, if_pos (by omega), if_pos (by omega), if_pos (by omega)]
    simp only [Int.toNat_natCast]
    have hmono : (w.Votes.getD i default).Promised ≤ (r.1.Votes.getD i default).Promised ∧ (w.Votes.getD i default).Ballot ≤ (r.1.Votes.getD i default).Ballot := by
      by_cases e : i = n
      · rw [e]; exact ⟨ht.prom, ht.bal⟩
      · rw [ht.same i e]; exact ⟨Int.le_refl _, Int.le_refl _⟩
    rw [if_neg (by omega)]
    by_cases hs : (w.Votes.getD i default).Promised = (r.1.Votes.getD i default).Promised ∧ (w.Votes.getD i default).Ballot = (r.1.Votes.getD i default).Ballot ∧ (w.Votes.getD i default).Value = (r.1.Votes.getD i default).Value
    · rw [if_neg (by simpa using hs)]
      simp only [Option.bind_some]
      rw [wr64 _ (by omega), show (i : Int) + 1 = ((i + 1 : Nat) : Int) from rfl]
      refine ih (i + 1) f c (by omega) (by omega) h0 ?_
      split at hc <;> split <;> omega
    · rw [if_pos hs]
      have e : i = n := by
        apply Classical.byContradiction
        intro e
        rw [ht.same i e] at hs
        exact hs ⟨rfl, rfl, rfl⟩
      simp only [Option.bind_some]
      rw [wr64 (i + 1) (by omega), show (i : Int) + 1 = ((i + 1 : Nat) : Int) from rfl, wr64 (c + 1) (by omega)]
      refine ih (i + 1) f (c + 1) (by omega) (by omega) (by omega) ?_
      rw [if_pos (by omega)]
      rw [if_neg (by omega)] at hc
      omega
theorem votes_law (w : TWorld) (m : TMove) (hw : wfL [w.d, m.d]) : m_towncrierlaw09_DecreeVotes w m = some true := by
  have hr : ∀ v ∈ w.Votes, In64 v.Promised ∧ In64 v.Ballot := by
    intro v hv
    simp only [wfL, TWorld.d, wf, wfL_iff, List.mem_map, and_true] at hw
    have h1 := hw.1.2.1
    have h2 := h1.2 (by decide) _ ⟨v, hv, rfl⟩
    simp only [TVote.d, wf, wfL, and_true, IntKind.max, IntKind.min, IntKind.signed, IntKind.bits] at h2
    unfold In64
    simp at h2
    omega
  rw [m_towncrierlaw09_DecreeVotes]
  obtain ⟨g, hg, hl⟩ := great9 w
  rw [hg]
  simp only [Option.bind_some]
  by_cases hc : (g = true) ∨ ((m.Value.length : Int) > 5000)
  · rw [if_pos hc]
  rw [if_neg hc]
  have hl := hl (by simp only [not_or] at hc; simpa using hc.1)
  obtain ⟨e, he, hok⟩ := dcheck_eq w hl
  by_cases h0 : e = 0
  · have h := hok.1 h0
    have hwg := h.wg hr
    obtain ⟨r, hr1, h1, h2⟩ := do_eq w m h
    rw [hr1]
    simp only [Option.bind_some]
    by_cases hr0 : r.2 = 0
    · obtain ⟨a1, a2, a3⟩ := h2 hr0
      have hg2 := a3.good hwg
      obtain ⟨n, ht⟩ := a3.turn hwg
      obtain ⟨e2, he2, hok2⟩ := dcheck_eq r.1 (hg2.ok a1 a2).proms
      have hz := hok2.2 (hg2.ok a1 a2)
      have q1 := hg2.vts
      have q2 := hwg.vts
      have q3 := ht.ch
      have hcond : ¬ (((¬ ((r.1.Votes.length : Int) = 6)) ∨ (¬ ((w.Votes.length : Int) = 6))) ∨ ((r.1.Chosen.length : Int) < (w.Chosen.length : Int))) := by omega
      rw [if_neg (by simpa using hr0), if_pos hcond, he2, hz]
      simp only [Option.bind_some]
      rw [if_neg (fun h => h.elim hcond (fun h => h trivial))]
      obtain ⟨q, hq, hq1⟩ := votes_loop w r n hwg.vts hg2.vts ht 6 0 7 0 rfl (by omega) (Int.le_refl _) (by simp)
      rw [show ((0 : Nat) : Int) = 0 from rfl] at hq
      rw [hq]
      simp only [Option.bind_some, Bool.true_and]
      rw [decide_eq_true hq1]
    · rw [if_pos hr0, h1 hr0]
      rfl
  · rw [m_decree_Do, he]
    simp only [Option.bind_some]
    rw [if_pos h0]
    simp only [Option.bind_some]
    rw [if_pos h0]
    rfl
end Go.Proofs
end
section
namespace Go.Tm
open Go.RowKit Go.WideShapes Go.ChangeShapes
def aggT (P : Program) (t : TypeId) : Bool := match P.underlying t with
  | some (.struct _) => true
  | _ => false
def mkD (P : Program) (t : TypeId) (l : List D) : D := bif aggT P t then .agg l else l.headD .undef
def fieldsIn (P : Program) (chk : TypeId → Bool) : Nat → List Field → Nat → Bool
  | off, [], tot => Nat.beq off tot
  | off, f :: fs, tot => Nat.beq f.offset off && chk f.type && fieldsIn P chk (off + P.cellsOf f.type) fs tot
def dataT (P : Program) : Nat → TypeId → Bool
  | 0, _ => false
  | n + 1, t => match P.underlying t with
    | some .bool => true
    | some (.int _) => true
    | some .string => true
    | some (.slice e) => dataT P n e && Nat.blt 0 (P.cellsOf e) && (aggT P e || Nat.beq (P.cellsOf e) 1)
    | some (.struct fs) => fieldsIn P (dataT P n) 0 fs.toList (P.cellsOf t)
    | _ => false
def typedL (p : TypeId → List D → Prop) : List TypeId → List D → Prop
  | [], l => l = []
  | t :: ts, l => ∃ l1 l2, l = l1 ++ l2 ∧ p t l1 ∧ typedL p ts l2
def typed (P : Program) : Nat → TypeId → List D → Prop
  | 0, _, _ => False
  | n + 1, t, l => match P.underlying t with
    | some .bool => ∃ b, l = [.bool b]
    | some (.int k) => ∃ m, l = [.int k m]
    | some .string => ∃ s, l = [.str s]
    | some (.slice e) => ∃ xs : List (List D), l = [.imm (P.cellsOf e) (xs.map (mkD P e)) 4] ∧ ∀ x ∈ xs, typed P n e x
    | some (.struct fs) => typedL (typed P n) (fs.toList.map (·.type)) l
    | _ => False
theorem reps_append' {C : Cx} : ∀ {l1 l2 : List D} {v1 v2 : List Value}, reps C l1 v1 → reps C l2 v2 → reps C (l1 ++ l2) (v1 ++ v2)
  | [], l2, v1, v2, h1, h2 => by simp only [reps] at h1; subst h1; simpa using h2
  | d :: ds, l2, v1, v2, h1, h2 => by
    simp only [reps] at h1
    obtain ⟨v, vs, rfl, hd, h1⟩ := h1
    simp only [List.cons_append, reps]
    exact ⟨v, vs ++ v2, rfl, hd, reps_append' h1 h2⟩
theorem elems_of {C : Cx} {b s : Nat} {p : List D → Prop} {f : List D → D} : ∀ (n o : Nat), (∀ i, i < n → ∃ l v, p l ∧ rep C (f l) v ∧ v.cells.size = s ∧ v.cells.toList.all (·.oneCell') = true ∧ C.w.rangeAt b (o + i * s) v.cells.toList) →
    ∃ xs : List (List D), xs.length = n ∧ elems C (xs.map f) b o s ∧ ∀ x ∈ xs, p x
  | 0, o, _ => ⟨[], rfl, by simp only [List.map_nil, elems], by simp⟩
  | n + 1, o, h => by
    obtain ⟨l, v, h1, h2, h3, h4, h5⟩ := h 0 (by omega)
    obtain ⟨xs, g1, g2, g3⟩ := elems_of n (o + s) (fun i hi => by
      obtain ⟨l, v, h1, h2, h3, h4, h5⟩ := h (i + 1) (by omega)
      exact ⟨l, v, h1, h2, h3, h4, by rwa [show o + (i + 1) * s = o + s + i * s by rw [Nat.add_mul]; omega] at h5⟩)
    refine ⟨l :: xs, by simp [g1], ?_, by simpa using ⟨h1, g3⟩⟩
    simp only [List.map_cons, elems]
    exact ⟨⟨v, h2, h3, h4, by simpa using h5⟩, g2⟩
theorem fieldsIn_le {P : Program} {chk : TypeId → Bool} : ∀ (fs : List Field) (off tot : Nat), fieldsIn P chk off fs tot = true → off ≤ tot
  | [], off, tot, h => Nat.le_of_eq (Nat.eq_of_beq_eq_true h)
  | f :: fs, off, tot, h => by
    simp only [fieldsIn, Bool.and_eq_true] at h
    have := fieldsIn_le fs _ _ h.2
    omega
section
variable {H : Type} {enc : TypeId × Value → H} {P : Program} {w : World} {sp : Nat → Bool}
theorem trod_reps : ∀ (n fuel : Nat) (t : TypeId) (cs : List Value) (x : DataW H × List MemPlace) (C : Cx), C.w = w → (∀ b, ¬ C.M b) → (∀ b, C.Z b) → dataT P n t = true → DataW.trod enc P w 0 sp true fuel t cs = some x →
    ∃ l, reps C l cs ∧ typed P n t l ∧ cs.all (·.oneCell') = true
  | 0, _, _, _, _, _, _, _, _, h, _ => by simp [dataT] at h
  | n + 1, fuel, t, cs, x, C, hw, hM, hlo, hd, h => by
    unfold dataT at hd
    split at hd
    · rename_i ht
      simp only [typed, ht]
      obtain ⟨b, rfl, _⟩ := DataW.trod_bool ht h
      exact ⟨[.bool b], by simp only [reps, rep]; exact ⟨_, _, rfl, rfl, rfl⟩, ⟨b, rfl⟩, rfl⟩
    · rename_i k ht
      simp only [typed, ht]
      obtain ⟨m, rfl, _, hwf⟩ := DataW.trod_int ht h
      simp only [Lit.wf, Bool.and_eq_true, decide_eq_true_eq] at hwf
      exact ⟨[.int k m], by simp only [reps, rep]; exact ⟨_, _, rfl, ⟨rfl, hwf⟩, rfl⟩, ⟨m, rfl⟩, rfl⟩
    · rename_i ht
      simp only [typed, ht]
      obtain ⟨s, rfl, _, hs⟩ := DataW.trod_string ht h
      refine ⟨[.str s.data.toList], ?_, ⟨_, rfl⟩, rfl⟩
      simp only [reps, rep]
      refine ⟨_, _, rfl, ⟨by rw [Array.toArray_toList], ?_⟩, rfl⟩
      have h1 : s.data.toList.length = s.size := by rw [Array.length_toList]; rfl
      have h2 : s.size ≤ 9223372036854775807 := hs
      rw [h1]; omega
    · rename_i e ht
      simp only [typed, ht]
      simp only [Bool.and_eq_true, Bool.or_eq_true] at hd
      obtain ⟨⟨hde, hpos⟩, hone⟩ := hd
      have hpos : 0 < P.cellsOf e := Nat.le_of_ble_eq_true hpos
      rcases DataW.trod_slice ht h with ⟨rfl, _⟩ | ⟨a, len, cap, els, rest, m, _, rfl, _, hb, hl, hc, hlen, hel, _⟩
      · refine ⟨[.imm (P.cellsOf e) (([] : List (List D)).map (mkD P e)) 4], ?_, ⟨[], rfl, fun _ h => by cases h⟩, rfl⟩
        simp only [reps, rep, List.map_nil, List.length_nil]
        exact ⟨_, _, rfl, ⟨none, 0, rfl, by simp, by simp, by simp, by simp, by simp, by simp, by simp, .inl trivial⟩, rfl⟩
      · have hc : cap ≤ 9223372036854775807 := hc
        have key : ∀ i, i < len → ∃ l v, typed P n e l ∧ rep (C.at C.Z) (mkD P e l) v ∧ v.cells.size = P.cellsOf e ∧ v.cells.toList.all (·.oneCell') = true ∧ (i = 0 → a.spot = none) ∧ a.block < w.heap.size ∧ w.rangeAt a.block (a.off + i * P.cellsOf e) v.cells.toList := by
          intro i hi
          have hi' := hel i hi
          have hsome : els[i]? = some els[i] := List.getElem?_eq_getElem (by omega)
          rw [hsome, Option.bind_eq_some_iff] at hi'
          obtain ⟨cs', hcs, htr⟩ := hi'
          obtain ⟨_, hclen, hcell⟩ := World.cells?_some hcs
          obtain ⟨l, g1, g2, g3⟩ := trod_reps n m e cs' _ (C.at C.Z) (by simpa [Cx.at] using hw) (by simpa [Cx.at] using hM) (by simpa [Cx.at] using hlo) hde htr
          have h0 := hcell 0 hpos
          have hc0 : cs'[0]? = some cs'[0] := List.getElem?_eq_getElem (by omega)
          rw [hc0] at h0
          have hadd : ∀ j, ((a.add (i * P.cellsOf e)).add j).block = a.block := by intro j; unfold Addr.add; split <;> split <;> rfl
          have hblk : a.block < w.heap.size ∧ ((a.add (i * P.cellsOf e)).add 0).spot = none := by
            unfold World.cell? at h0
            rw [hadd] at h0
            split at h0
            · rename_i c T fz hh
              have := (Array.getElem?_eq_some_iff.1 hh).1
              split at h0
              · cases h0
              · rename_i hs; exact ⟨this, by simpa using hs⟩
            · cases h0
          have hspot0 : (a.add (i * P.cellsOf e)).spot = none := by simpa [Addr.add] using hblk.2
          have hae : ∀ j, j < P.cellsOf e → (a.add (i * P.cellsOf e)).add j = ⟨a.block, a.off + i * P.cellsOf e + j, none⟩ := by
            intro j _
            unfold Addr.add at hspot0 ⊢
            split at hspot0
            · rename_i hz
              simp only [hz, if_true, Nat.add_zero]
              split
              · rename_i hj; subst hj; cases a; simp_all
              · rfl
            · rename_i hz
              simp only [hz, if_false]
              split
              · rename_i hj; subst hj; rfl
              · rfl
          have hrange : w.rangeAt a.block (a.off + i * P.cellsOf e) cs' := by
            intro j v hj
            have hjl := (List.getElem?_eq_some_iff.1 hj).1
            have := hcell j (by omega)
            rw [hae j (by omega), hj] at this
            exact this
          cases hag : aggT P e with
          | true =>
            refine ⟨l, .agg cs'.toArray, g2, ?_, by simp [Value.cells, hclen], by simpa [Value.cells] using g3, ?_, hblk.1, by simpa [Value.cells] using hrange⟩
            · simp only [mkD, hag, cond_true, rep]
              exact ⟨cs', rfl, g1⟩
            · rintro rfl; simpa [Addr.add] using hspot0
          | false =>
            rw [hag] at hone
            have h1 : P.cellsOf e = 1 := by simpa using hone
            rw [h1] at hclen
            obtain ⟨v, rfl⟩ := List.length_eq_one_iff.1 hclen
            obtain ⟨d, rfl⟩ : ∃ d, l = [d] := List.length_eq_one_iff.1 ((reps_length _ _ g1).symm.trans rfl)
            simp only [reps] at g1
            obtain ⟨v', vs', hv, hd, rfl⟩ := g1
            obtain rfl : v = v' := (List.cons.inj hv).1
            have hcv : v.cells = #[v] := by
              simp only [List.all_cons, List.all_nil, Bool.and_true] at g3
              cases v <;> first | rfl | simp [Value.oneCell'] at g3
            refine ⟨[d], v, g2, by simpa [mkD, hag] using hd, by simp [hcv, h1], by simpa [hcv] using g3, ?_, hblk.1, by simpa [hcv] using hrange⟩
            rintro rfl; simpa [Addr.add] using hspot0
        obtain ⟨xs, g1, g2, g3⟩ := elems_of (C := C.at C.Z) (b := a.block) (s := P.cellsOf e) (p := typed P n e) (f := mkD P e) len a.off (fun i hi => by
          obtain ⟨l, v, h1, h2, h3, h4, _, _, h5⟩ := key i hi
          exact ⟨l, v, h1, h2, h3, h4, by subst hw; exact h5⟩)
        refine ⟨[.imm (P.cellsOf e) (xs.map (mkD P e)) 4], ?_, ⟨xs, rfl, g3⟩, rfl⟩
        simp only [reps, rep, List.length_map, g1]
        refine ⟨_, _, rfl, ⟨some a, cap, rfl, hl, by omega, by simp, by simp, by simp, by simp, by simp, ?_⟩, rfl⟩
        rcases Nat.eq_zero_or_pos len with h0 | h0
        · left; subst h0; have := List.length_eq_zero_iff.1 g1; simp [this]
        · right
          obtain ⟨_, _, _, _, _, _, k1, k2, _⟩ := key 0 h0
          intro Z hZ
          have hZ : C.Z = Z := by simpa [Cx.zone] using hZ
          subst hZ
          exact ⟨a, rfl, k1 rfl, hM _, hlo _, by rw [hw]; exact k2, g2⟩
    · rename_i fs ht
      simp only [typed, ht]
      obtain ⟨xs, m, _, _, hcl, hxl, hf⟩ := DataW.trod_struct ht h
      have key : ∀ (gs : List Field) (k : Nat), (∀ i f, gs[i]? = some f → fs[k + i]? = some f) → ∀ off, fieldsIn P (dataT P n) off gs (P.cellsOf t) = true → off ≤ cs.length → 
          ∃ l, reps C l (cs.drop off) ∧ typedL (typed P n) (gs.map (·.type)) l ∧ (cs.drop off).all (·.oneCell') = true := by
        intro gs
        induction gs with
        | nil =>
          intro k _ off ho _
          simp only [fieldsIn] at ho
          have ho := Nat.eq_of_beq_eq_true ho
          have : cs.drop off = [] := by rw [ho, ← hcl]; simp
          rw [this]
          exact ⟨[], by simp only [reps], rfl, rfl⟩
        | cons f gs ih =>
          intro k hk off ho hle
          simp only [fieldsIn, Bool.and_eq_true] at ho
          obtain ⟨⟨h1, h2⟩, h3⟩ := ho
          have h1 := Nat.eq_of_beq_eq_true h1
          have hfk := hf k f (by simpa using hk 0 f rfl)
          have hkl : k < xs.length := by
            have := hk 0 f rfl
            rw [hxl]
            exact (Array.getElem?_eq_some_iff.1 (by simpa using this)).1
          rw [List.getElem?_eq_getElem hkl, h1] at hfk
          obtain ⟨l1, g1, g2, g3⟩ := trod_reps n m f.type _ _ C hw hM hlo h2 hfk
          have hl1 : ((cs.drop off).take (P.cellsOf f.type)).length = P.cellsOf f.type := by
            have := fieldsIn_le _ _ _ h3
            simp
            omega
          obtain ⟨l2, k1, k2, k3⟩ := ih (k + 1) (fun i f' hi => by have := hk (i + 1) f' (by simpa using hi); rwa [show k + (i + 1) = k + 1 + i by omega] at this) (off + P.cellsOf f.type) h3 (by
            simp at hl1; omega)
          have e : cs.drop off = (cs.drop off).take (P.cellsOf f.type) ++ cs.drop (off + P.cellsOf f.type) := by
            rw [← List.drop_drop, List.take_append_drop]
          refine ⟨l1 ++ l2, by rw [e]; exact reps_append' g1 k1, ⟨l1, l2, rfl, g2, k2⟩, by rw [e, List.all_append, g3, k3]; rfl⟩
      simpa using key fs.toList 0 (fun i f hi => by simpa using hi) 0 hd (Nat.zero_le _)
    · cases hd
theorem trod_rep {r : Reach} {b0 n : Nat} {t : TypeId} {v : Value} {d : DataW H} {ps : List MemPlace} {fr : Nat} (hd : dataT P n t = true) (hval : Value.okWide P w r b0 t v) (h : DataW.Trod enc P w 0 sp true t v d ps) :
    ∃ l, typed P n t l ∧ rep (cx0 w fr) (mkD P t l) v := by
  obtain ⟨fuel, h⟩ := h
  obtain ⟨l, h1, h2, h3⟩ := trod_reps n fuel t _ _ (cx0 w fr) rfl (fun _ h => h) (fun _ => trivial) hd h
  refine ⟨l, h2, ?_⟩
  unfold mkD aggT
  cases n with
  | zero => simp [dataT] at hd
  | succ n =>
    unfold dataT at hd
    unfold Value.okWide at hval
    split at hd
    case h_5 fs ht =>
      rw [ht] at hval ⊢
      obtain ⟨cs, rfl, _⟩ := hval
      simp only [cond_true, rep]
      exact ⟨cs.toList, by simp, by simpa [Value.cells] using h1⟩
    case h_6 => cases hd
    all_goals
      rename_i ht
      rw [ht] at hval ⊢
      simp only [cond_false]
      have hcv : v.cells = #[v] := by
        cases v with
        | agg cs => simp [Cell.okWide, Cell.ok, ht] at hval
        | _ => rfl
      rw [hcv] at h1
      have hl : ∃ d, l = [d] := List.length_eq_one_iff.1 ((reps_length _ _ h1).symm.trans rfl)
      obtain ⟨d, rfl⟩ := hl
      simp only [reps] at h1
      obtain ⟨v', vs', hv, hd', _⟩ := h1
      obtain rfl : v = v' := by simpa using (List.cons.inj hv).1
      exact hd'
def typedAll (P : Program) (n : Nat) : List TypeId → List D → Prop
  | [], l => l = []
  | t :: ts, l => ∃ c r, l = mkD P t c :: r ∧ typed P n t c ∧ typedAll P n ts r
theorem trodAll_reps {r : Reach} {b0 n fr : Nat} : ∀ {ts : List TypeId} {vs : List Value} {ds : List (DataW H)} {ps : List MemPlace}, ts.all (dataT P n) = true → (∀ (j : Nat) t v, ts[j]? = some t → vs[j]? = some v → Value.okWide P w r b0 t v) →
    DataW.TrodAll enc P w 0 sp true ts vs ds ps → ∃ l, typedAll P n ts l ∧ reps (cx0 w fr) l vs
  | [], [], [], _, _, _, _ => ⟨[], rfl, by simp only [reps]⟩
  | t :: ts, v :: vs, d :: ds, ps, hd, hval, h => by
    obtain ⟨p, q, h1, h2, _⟩ := h
    simp only [List.all_cons, Bool.and_eq_true] at hd
    obtain ⟨c, g1, g2⟩ := trod_rep (fr := fr) hd.1 (hval 0 t v rfl rfl) h1
    obtain ⟨l, k1, k2⟩ := trodAll_reps hd.2 (fun j t v h h' => hval (j + 1) t v h h') h2
    exact ⟨_ :: l, ⟨c, l, rfl, g1, k1⟩, by simp only [reps]; exact ⟨_, _, rfl, g2, k2⟩⟩
  | [], _ :: _, _, _, _, _, h => h.elim
  | [], [], _ :: _, _, _, _, h => h.elim
  | _ :: _, [], _, _, _, _, h => h.elim
  | _ :: _, _ :: _, [], _, _, _, h => h.elim
theorem trodAll_stays (hl : laidOutB P = true) {W W' : World} (hB : Below W.heap.size W W') {sp' : Nat → Bool} : ∀ {ts : List TypeId} {vs : List Value} {ds : List (DataW H)} {ps : List MemPlace}, (ts.all fun t => P.readableRec t && Nat.blt t P.types.size) = true →
    DataW.TrodAll enc P W 0 (fun _ => true) true ts vs ds ps → (∀ p ∈ ps, p.block < W.heap.size ∧ sp' p.block = true) → DataW.TrodAll enc P W' 0 sp' true ts vs ds ps
  | [], [], [], _, _, h, _ => h
  | t :: ts, v :: vs, d :: ds, ps, hr, h, hp => by
    obtain ⟨p, q, h1, h2, rfl⟩ := h
    simp only [List.all_cons, Bool.and_eq_true] at hr
    refine ⟨p, q, WideElems.Trod_stays hl hr.1.1 (Nat.le_of_ble_eq_true hr.1.2) h1 (fun x hx => hB.same (hp x (by simp [hx])).1) (fun x hx => (hp x (by simp [hx])).2), ?_, rfl⟩
    exact trodAll_stays hl hB hr.2 h2 fun x hx => hp x (by simp [hx])
  | [], _ :: _, _, _, _, h, _ => h.elim
  | [], [], _ :: _, _, _, h, _ => h.elim
  | _ :: _, [], _, _, _, h, _ => h.elim
  | _ :: _, _ :: _, [], _, _, h, _ => h.elim
theorem law_contract {K : FuncId} {f : Func} {s : ChangeSpec} {apart fresh : Bool} {n : Nat} {tb : TypeId} (hl : laidOutB P = true) (hr : (f.params.toList.all fun t => P.readableRec t && Nat.blt t P.types.size) = true)
    (hd : f.params.toList.all (dataT P n) = true) (hvars : s.vars = []) (hres : f.resultTypes = #[tb]) (hb : P.underlying tb = some .bool)
    (hfn : ∀ ds : List (DataW H), ds.length = f.params.size → s.fn H ds = { results := [.lit (.bool true)], args := ds })
    (hK : ∀ l, typedAll P n f.params.toList l → CallP P K l (.bool true)) {W : World} {base : Nat} {args : Array Value} {ds gs : List (DataW H)} {before : List MemPlace}
    (hval : ∀ (j : Nat) t v, f.params[j]? = some t → args[j]? = some v → Value.okWide P W .any base t v) (hW : DataW.Whole enc P f.params.toList s.vars apart W args.toList ds gs before) :
    Calls P K args W fun e W' => ∃ v, e = .returned v ∧ s.post enc P f apart fresh false false W args v W' := by
  have hW' := hW
  obtain ⟨p, q, hA, hV, rfl, hfz, hnd⟩ := hW
  rw [hvars] at hV
  have hlen : ds.length = f.params.size := by
    have : ∀ {ts : List TypeId} {vs : List Value} {ds : List (DataW H)} {ps : List MemPlace}, DataW.TrodAll enc P W 0 (fun _ => true) true ts vs ds ps → ds.length = ts.length := by
      intro ts
      induction ts with
      | nil => intro vs ds ps h; cases vs <;> cases ds <;> first | rfl | exact h.elim
      | cons t ts ih => intro vs ds ps h; cases vs <;> cases ds <;> first | (obtain ⟨_, _, _, h2, _⟩ := h; simp [ih h2]) | exact h.elim
    simpa using this hA
  have hgs : gs = [] ∧ q = [] := by
    cases gs with
    | nil => exact ⟨rfl, hV⟩
    | cons g gs => exact hV.elim
  obtain ⟨rfl, rfl⟩ := hgs
  obtain ⟨l, h1, h2⟩ := trodAll_reps (fr := W.heap.size) hd (fun j t v h h' => hval j t v (by simpa using h) (by simpa using h')) hA
  refine ((hK l h1).2 W _ h2).mono fun e W' ⟨v, he, hk, _, hv⟩ => ⟨v, he, ?_⟩
  simp only [rep] at hv
  subst hv
  have hB := hk.below
  have hlt := hW'.lt
  have hf := hfn ds hlen
  refine ⟨ds, [], p ++ [], [], p, [], hW', ?_, ?_, ?_, ?_, fun h => by cases h⟩
  · rw [List.append_nil, hf, hres]
    exact ⟨[], [], ⟨1, by simp [DataW.trod, Value.cells, hb]⟩, rfl, rfl⟩
  · rw [List.append_nil, hf]
    exact trodAll_stays hl hB hr hA fun x hx => ⟨hlt x (by simp [hx]), by simpa using hlt x (by simp [hx])⟩
  · rw [List.append_nil, hf, hvars]
    rfl
  · exact hB.frame _
end
theorem list_of {α : Type} {f : α → D} {g : List D → D} : ∀ (xs : List (List D)), (∀ x ∈ xs, ∃ y, g x = f y) → ∃ l : List α, xs.map g = l.map f
  | [], _ => ⟨[], rfl⟩
  | x :: xs, h => by
    obtain ⟨y, hy⟩ := h x (by simp)
    obtain ⟨l, hl⟩ := list_of xs fun x hx => h x (by simp [hx])
    exact ⟨y :: l, by simp only [List.map_cons, hy, hl]⟩
section
variable {P : Program} {n : Nat} {t : TypeId} {l : List D}
theorem mkD_one {d : D} (ha : aggT P t = false) : mkD P t [d] = d := by simp only [mkD, ha, cond_false, List.headD_cons]
theorem mkD_agg (ha : aggT P t = true) : mkD P t l = .agg l := by simp only [mkD, ha, cond_true]
theorem typed_int {k : IntKind} (hu : P.underlying t = some (.int k)) (h : typed P (n + 1) t l) : ∃ m, l = [.int k m] := by
  rw [typed, hu] at h; exact h
theorem typed_str (hu : P.underlying t = some .string) (h : typed P (n + 1) t l) : ∃ s, l = [.str s] := by
  rw [typed, hu] at h; exact h
theorem typed_list {α : Type} (f : α → D) {e : TypeId} {s : Nat} (hu : P.underlying t = some (.slice e)) (ha : aggT P t = false) (hc : P.cellsOf e = s) (hx : ∀ x, typed P n e x → ∃ y, mkD P e x = f y) (h : typed P (n + 1) t l) :
    ∃ m : List α, mkD P t l = .imm s (m.map f) 4 := by
  rw [typed, hu] at h
  obtain ⟨xs, rfl, hxs⟩ := h
  obtain ⟨m, hm⟩ := list_of (f := f) (g := mkD P e) xs fun x hx' => hx x (hxs x hx')
  exact ⟨m, by rw [mkD_one ha, hm, hc]⟩
theorem typed_one {e : TypeId} (hu : P.underlying t = some (.slice e)) (h : typed P (n + 1) t l) : ∃ d, l = [d] := by
  rw [typed, hu] at h
  obtain ⟨xs, rfl, _⟩ := h
  exact ⟨_, rfl⟩
theorem typed_struct {fs : Array Field} (hu : P.underlying t = some (.struct fs)) (h : typed P (n + 1) t l) : typedL (typed P n) (fs.toList.map (·.type)) l := by
  rw [typed, hu] at h; exact h
theorem typedL_cons {p : TypeId → List D → Prop} {ts : List TypeId} (h : typedL p (t :: ts) l) : ∃ l1 l2, l = l1 ++ l2 ∧ p t l1 ∧ typedL p ts l2 := h
theorem typedL_nil {p : TypeId → List D → Prop} (h : typedL p [] l) : l = [] := h
theorem typedAll_cons {ts : List TypeId} (h : typedAll P n (t :: ts) l) : ∃ c r, l = mkD P t c :: r ∧ typed P n t c ∧ typedAll P n ts r := h
theorem typedAll_nil (h : typedAll P n [] l) : l = [] := h
end
end Go.Tm
end
section
namespace Go.Proofs.Ytbbinddkhlmlcaa.decreeVotes
open Go.ChangeShapes Go.WideShapes Go.RowKit Go.Tm
set_option maxRecDepth 100000
theorem own : ownKnob Try.prog.godebug = none := by kernel_rfl
theorem agg31 : aggT Try.prog 31 = true := by kernel_rfl
theorem agg22 : aggT Try.prog 22 = false := by kernel_rfl
theorem agg3 : aggT Try.prog 3 = false := by kernel_rfl
theorem cells3 : Try.prog.cellsOf 3 = 1 := by kernel_rfl
theorem tc22 {n : Nat} {l : List D} (h : typed Try.prog (n + 2) 22 l) : ∃ m : List Int, l = [.imm 1 (m.map (D.int .i64)) 4] := by
  obtain ⟨d, hd⟩ := typed_one Try.underlying22 h
  obtain ⟨m, hm⟩ := typed_list (D.int .i64) Try.underlying22 agg22 cells3 (fun x hx => by
    obtain ⟨a, ha⟩ := typed_int Try.underlying3 hx
    exact ⟨a, ha ▸ mkD_one agg3⟩) h
  rw [hd, mkD_one agg22] at hm
  exact ⟨m, by rw [hd, hm]⟩
theorem agg26 : aggT Try.prog 26 = false := by kernel_rfl
theorem agg52 : aggT Try.prog 52 = true := by kernel_rfl
theorem tc52 {n : Nat} {l : List D} (h : typed Try.prog (n + 2) 52 l) : ∃ x : TVote, l = [.int .i64 x.Promised, .int .i64 x.Ballot, .str x.Value] := by
  replace h := typed_struct Try.underlying52 h
  obtain ⟨l0, r0, e0, h0, h⟩ := typedL_cons h
  obtain ⟨l1, r1, e1, h1, h⟩ := typedL_cons h
  obtain ⟨l2, r2, e2, h2, h⟩ := typedL_cons h
  have ez := typedL_nil h
  obtain ⟨a0, f0⟩ := typed_int Try.underlying3 h0
  obtain ⟨a1, f1⟩ := typed_int Try.underlying3 h1
  obtain ⟨a2, f2⟩ := typed_str Try.underlying9 h2
  refine ⟨⟨a0, a1, a2⟩, ?_⟩
  rw [e0, e1, e2, ez, f0, f1, f2]
  exact rfl
theorem cells52 : Try.prog.cellsOf 52 = 3 := by kernel_rfl
theorem tc26 {n : Nat} {l : List D} (h : typed Try.prog (n + 3) 26 l) : ∃ m : List TVote, l = [.imm 3 (m.map TVote.d) 4] := by
  obtain ⟨d, hd⟩ := typed_one Try.underlying26 h
  obtain ⟨m, hm⟩ := typed_list TVote.d Try.underlying26 agg26 cells52 (fun x hx => by
    obtain ⟨a, ha⟩ := tc52 (n := n) hx
    exact ⟨a, (mkD_agg agg52).trans (by rw [ha]; rfl)⟩) h
  rw [hd, mkD_one agg26] at hm
  exact ⟨m, by rw [hd, hm]⟩
theorem agg27 : aggT Try.prog 27 = false := by kernel_rfl
theorem agg45 : aggT Try.prog 45 = true := by kernel_rfl
theorem agg43 : aggT Try.prog 43 = false := by kernel_rfl
theorem agg77 : aggT Try.prog 77 = true := by kernel_rfl
theorem tc77 {n : Nat} {l : List D} (h : typed Try.prog (n + 2) 77 l) : ∃ x : TPromise, l = [.int .i64 x.Node, .int .i64 x.Ballot, .str x.Value] := by
  replace h := typed_struct Try.underlying77 h
  obtain ⟨l0, r0, e0, h0, h⟩ := typedL_cons h
  obtain ⟨l1, r1, e1, h1, h⟩ := typedL_cons h
  obtain ⟨l2, r2, e2, h2, h⟩ := typedL_cons h
  have ez := typedL_nil h
  obtain ⟨a0, f0⟩ := typed_int Try.underlying3 h0
  obtain ⟨a1, f1⟩ := typed_int Try.underlying3 h1
  obtain ⟨a2, f2⟩ := typed_str Try.underlying9 h2
  refine ⟨⟨a0, a1, a2⟩, ?_⟩
  rw [e0, e1, e2, ez, f0, f1, f2]
  exact rfl
theorem cells77 : Try.prog.cellsOf 77 = 3 := by kernel_rfl
theorem tc43 {n : Nat} {l : List D} (h : typed Try.prog (n + 3) 43 l) : ∃ m : List TPromise, l = [.imm 3 (m.map TPromise.d) 4] := by
  obtain ⟨d, hd⟩ := typed_one Try.underlying43 h
  obtain ⟨m, hm⟩ := typed_list TPromise.d Try.underlying43 agg43 cells77 (fun x hx => by
    obtain ⟨a, ha⟩ := tc77 (n := n) hx
    exact ⟨a, (mkD_agg agg77).trans (by rw [ha]; rfl)⟩) h
  rw [hd, mkD_one agg43] at hm
  exact ⟨m, by rw [hd, hm]⟩
theorem tc45 {n : Nat} {l : List D} (h : typed Try.prog (n + 4) 45 l) : ∃ x : TAttempt, l = [.int .u8 x.Phase, .int .i64 x.Ballot, .imm 1 (x.Members.map (D.int .i64)) 4, .str x.Wish, .str x.Value, .imm 3 (x.Promises.map TPromise.d) 4, .imm 1 (x.Accepted.map (D.int .i64)) 4] := by
  replace h := typed_struct Try.underlying45 h
  obtain ⟨l0, r0, e0, h0, h⟩ := typedL_cons h
  obtain ⟨l1, r1, e1, h1, h⟩ := typedL_cons h
  obtain ⟨l2, r2, e2, h2, h⟩ := typedL_cons h
  obtain ⟨l3, r3, e3, h3, h⟩ := typedL_cons h
  obtain ⟨l4, r4, e4, h4, h⟩ := typedL_cons h
  obtain ⟨l5, r5, e5, h5, h⟩ := typedL_cons h
  obtain ⟨l6, r6, e6, h6, h⟩ := typedL_cons h
  have ez := typedL_nil h
  obtain ⟨a0, f0⟩ := typed_int Try.underlying5 h0
  obtain ⟨a1, f1⟩ := typed_int Try.underlying3 h1
  obtain ⟨a2, f2⟩ := tc22 (n := n + 1) h2
  obtain ⟨a3, f3⟩ := typed_str Try.underlying9 h3
  obtain ⟨a4, f4⟩ := typed_str Try.underlying9 h4
  obtain ⟨a5, f5⟩ := tc43 (n := n + 0) h5
  obtain ⟨a6, f6⟩ := tc22 (n := n + 1) h6
  refine ⟨⟨a0, a1, a2, a3, a4, a5, a6⟩, ?_⟩
  rw [e0, e1, e2, e3, e4, e5, e6, ez, f0, f1, f2, f3, f4, f5, f6]
  exact rfl
theorem cells45 : Try.prog.cellsOf 45 = 7 := by kernel_rfl
theorem tc27 {n : Nat} {l : List D} (h : typed Try.prog (n + 5) 27 l) : ∃ m : List TAttempt, l = [.imm 7 (m.map TAttempt.d) 4] := by
  obtain ⟨d, hd⟩ := typed_one Try.underlying27 h
  obtain ⟨m, hm⟩ := typed_list TAttempt.d Try.underlying27 agg27 cells45 (fun x hx => by
    obtain ⟨a, ha⟩ := tc45 (n := n) hx
    exact ⟨a, (mkD_agg agg45).trans (by rw [ha]; rfl)⟩) h
  rw [hd, mkD_one agg27] at hm
  exact ⟨m, by rw [hd, hm]⟩
theorem agg28 : aggT Try.prog 28 = false := by kernel_rfl
theorem agg47 : aggT Try.prog 47 = true := by kernel_rfl
theorem tc47 {n : Nat} {l : List D} (h : typed Try.prog (n + 2) 47 l) : ∃ x : TMail, l = [.int .i64 x.From, .int .i64 x.To, .int .u8 x.Kind, .int .i64 x.Group, .int .i64 x.Slot, .int .i64 x.Ballot, .int .i64 x.Prior, .str x.Value, .int .i64 x.Id, .int .i64 x.Time] := by
  replace h := typed_struct Try.underlying47 h
  obtain ⟨l0, r0, e0, h0, h⟩ := typedL_cons h
  obtain ⟨l1, r1, e1, h1, h⟩ := typedL_cons h
  obtain ⟨l2, r2, e2, h2, h⟩ := typedL_cons h
  obtain ⟨l3, r3, e3, h3, h⟩ := typedL_cons h
  obtain ⟨l4, r4, e4, h4, h⟩ := typedL_cons h
  obtain ⟨l5, r5, e5, h5, h⟩ := typedL_cons h
  obtain ⟨l6, r6, e6, h6, h⟩ := typedL_cons h
  obtain ⟨l7, r7, e7, h7, h⟩ := typedL_cons h
  obtain ⟨l8, r8, e8, h8, h⟩ := typedL_cons h
  obtain ⟨l9, r9, e9, h9, h⟩ := typedL_cons h
  have ez := typedL_nil h
  obtain ⟨a0, f0⟩ := typed_int Try.underlying3 h0
  obtain ⟨a1, f1⟩ := typed_int Try.underlying3 h1
  obtain ⟨a2, f2⟩ := typed_int Try.underlying5 h2
  obtain ⟨a3, f3⟩ := typed_int Try.underlying3 h3
  obtain ⟨a4, f4⟩ := typed_int Try.underlying3 h4
  obtain ⟨a5, f5⟩ := typed_int Try.underlying3 h5
  obtain ⟨a6, f6⟩ := typed_int Try.underlying3 h6
  obtain ⟨a7, f7⟩ := typed_str Try.underlying9 h7
  obtain ⟨a8, f8⟩ := typed_int Try.underlying3 h8
  obtain ⟨a9, f9⟩ := typed_int Try.underlying3 h9
  refine ⟨⟨a0, a1, a2, a3, a4, a5, a6, a7, a8, a9⟩, ?_⟩
  rw [e0, e1, e2, e3, e4, e5, e6, e7, e8, e9, ez, f0, f1, f2, f3, f4, f5, f6, f7, f8, f9]
  exact rfl
theorem cells47 : Try.prog.cellsOf 47 = 10 := by kernel_rfl
theorem tc28 {n : Nat} {l : List D} (h : typed Try.prog (n + 3) 28 l) : ∃ m : List TMail, l = [.imm 10 (m.map TMail.d) 4] := by
  obtain ⟨d, hd⟩ := typed_one Try.underlying28 h
  obtain ⟨m, hm⟩ := typed_list TMail.d Try.underlying28 agg28 cells47 (fun x hx => by
    obtain ⟨a, ha⟩ := tc47 (n := n) hx
    exact ⟨a, (mkD_agg agg47).trans (by rw [ha]; rfl)⟩) h
  rw [hd, mkD_one agg28] at hm
  exact ⟨m, by rw [hd, hm]⟩
theorem agg29 : aggT Try.prog 29 = false := by kernel_rfl
theorem agg38 : aggT Try.prog 38 = true := by kernel_rfl
theorem tc38 {n : Nat} {l : List D} (h : typed Try.prog (n + 2) 38 l) : ∃ x : TChoice, l = [.int .i64 x.Node, .str x.Value] := by
  replace h := typed_struct Try.underlying38 h
  obtain ⟨l0, r0, e0, h0, h⟩ := typedL_cons h
  obtain ⟨l1, r1, e1, h1, h⟩ := typedL_cons h
  have ez := typedL_nil h
  obtain ⟨a0, f0⟩ := typed_int Try.underlying3 h0
  obtain ⟨a1, f1⟩ := typed_str Try.underlying9 h1
  refine ⟨⟨a0, a1⟩, ?_⟩
  rw [e0, e1, ez, f0, f1]
  exact rfl
theorem cells38 : Try.prog.cellsOf 38 = 2 := by kernel_rfl
theorem tc29 {n : Nat} {l : List D} (h : typed Try.prog (n + 3) 29 l) : ∃ m : List TChoice, l = [.imm 2 (m.map TChoice.d) 4] := by
  obtain ⟨d, hd⟩ := typed_one Try.underlying29 h
  obtain ⟨m, hm⟩ := typed_list TChoice.d Try.underlying29 agg29 cells38 (fun x hx => by
    obtain ⟨a, ha⟩ := tc38 (n := n) hx
    exact ⟨a, (mkD_agg agg38).trans (by rw [ha]; rfl)⟩) h
  rw [hd, mkD_one agg29] at hm
  exact ⟨m, by rw [hd, hm]⟩
theorem tc31 {n : Nat} {l : List D} (h : typed Try.prog (n + 6) 31 l) : ∃ x : TWorld, l = [.imm 1 (x.Members.map (D.int .i64)) 4, .imm 3 (x.Votes.map TVote.d) 4, .imm 7 (x.Tries.map TAttempt.d) 4, .imm 10 (x.Mail.map TMail.d) 4, .imm 2 (x.Chosen.map TChoice.d) 4] := by
  replace h := typed_struct Try.underlying31 h
  obtain ⟨l0, r0, e0, h0, h⟩ := typedL_cons h
  obtain ⟨l1, r1, e1, h1, h⟩ := typedL_cons h
  obtain ⟨l2, r2, e2, h2, h⟩ := typedL_cons h
  obtain ⟨l3, r3, e3, h3, h⟩ := typedL_cons h
  obtain ⟨l4, r4, e4, h4, h⟩ := typedL_cons h
  have ez := typedL_nil h
  obtain ⟨a0, f0⟩ := tc22 (n := n + 3) h0
  obtain ⟨a1, f1⟩ := tc26 (n := n + 2) h1
  obtain ⟨a2, f2⟩ := tc27 (n := n + 0) h2
  obtain ⟨a3, f3⟩ := tc28 (n := n + 2) h3
  obtain ⟨a4, f4⟩ := tc29 (n := n + 2) h4
  refine ⟨⟨a0, a1, a2, a3, a4⟩, ?_⟩
  rw [e0, e1, e2, e3, e4, ez, f0, f1, f2, f3, f4]
  exact rfl
theorem agg36 : aggT Try.prog 36 = true := by kernel_rfl
theorem tc36 {n : Nat} {l : List D} (h : typed Try.prog (n + 2) 36 l) : ∃ x : TMove, l = [.int .u8 x.Kind, .int .i64 x.Node, .int .i64 x.At, .str x.Value] := by
  replace h := typed_struct Try.underlying36 h
  obtain ⟨l0, r0, e0, h0, h⟩ := typedL_cons h
  obtain ⟨l1, r1, e1, h1, h⟩ := typedL_cons h
  obtain ⟨l2, r2, e2, h2, h⟩ := typedL_cons h
  obtain ⟨l3, r3, e3, h3, h⟩ := typedL_cons h
  have ez := typedL_nil h
  obtain ⟨a0, f0⟩ := typed_int Try.underlying5 h0
  obtain ⟨a1, f1⟩ := typed_int Try.underlying3 h1
  obtain ⟨a2, f2⟩ := typed_int Try.underlying3 h2
  obtain ⟨a3, f3⟩ := typed_str Try.underlying9 h3
  refine ⟨⟨a0, a1, a2, a3⟩, ?_⟩
  rw [e0, e1, e2, e3, ez, f0, f1, f2, f3]
  exact rfl
theorem params5 : Try.f5.params.toList = [31, 36] := by kernel_rfl
theorem hK (l : List D) (h : typedAll Try.prog 8 Try.f5.params.toList l) : CallP Try.prog 5 l (.bool true) := by
  rw [params5] at h
  obtain ⟨c0, r0, e0, h0, h⟩ := typedAll_cons h
  obtain ⟨c1, r1, e1, h1, h⟩ := typedAll_cons h
  have ez := typedAll_nil h
  obtain ⟨a0, f0⟩ := tc31 (n := 2) h0
  obtain ⟨a1, f1⟩ := tc36 (n := 6) h1
  rw [e0, e1, ez, f0, f1, mkD_agg agg31, mkD_agg agg36]
  exact callP_wf ⟨Try.f5, Try.func5, by decide, rfl⟩ fun hw => callP_towncrierlaw09_DecreeVotes a0 a1 _ (votes_law a0 a1 hw)
set_option maxRecDepth 100000 in
theorem lifted (os : Os) (started : os.Started) (H : Type) (enc : TypeId × Value → H) :
    ReturnsInHanded {} Try.checked os 5 .any (Rows.decreeVotesSpec.pre6 enc Try.prog Try.f5 Rows.decreeVotesRow.domain false) (Rows.decreeVotesSpec.post enc Try.prog Try.f5 false true false false) := by
  refine returnsInHanded_of_change (C := Try.checked) own started (by kernel_rfl) Try.func5
    (ChangeSpec.witness6 (enc := enc) (C := Try.checked) false ⟨#[], #[.agg #[.slice none 0 0, .slice none 0 0, .slice none 0 0, .slice none 0 0, .slice none 0 0], .agg #[.int .u8 0, .int .i64 0, .int .i64 0, .string ⟨#[]⟩]], []⟩ 8 (by kernel_rfl) (by kernel_rfl) (by kernel_rfl) (by kernel_rfl)) ?_
  intro W base args ds gs before hval hW _ _
  exact law_contract (K := 5) (n := 8) (tb := 4) (by kernel_rfl) (by kernel_rfl) (by kernel_rfl) rfl rfl Try.underlying4 (fun ds h => by
    match ds, h with
    | [_, _], _ => rfl) hK hval hW
end Go.Proofs.Ytbbinddkhlmlcaa.decreeVotes
end

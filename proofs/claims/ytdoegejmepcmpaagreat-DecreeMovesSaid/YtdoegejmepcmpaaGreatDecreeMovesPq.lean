/- Texts of the proof. -/
import Derived.WideKeyArgs
import Derived.ChangeSame
import Derived.ChangeArms
import Derived.OpenShut
import Derived.Carry
import Derived.Test.YtdoegejmepcmpaaGreatDecreeMovesPp
import Derived.Test.YtdoegejmepcmpaaGreatDecreeMovesPl
import Derived.Test.YtdoegejmepcmpaaGreatDecreeMovesPn
import Derived.Test.YtdoegejmepcmpaaGreatDecreeMovesPe
section
namespace Go.Proofs
open Go.Tm
set_option linter.unusedSimpArgs false
theorem zx6 (b : List Int) : ∀ (l : List Int) (n : Nat), n + l.length = b.length -> zaf b l n = some (if l = b.drop n then .inr () else .inl false) := by
 intro l
 induction l with
 | nil => intro n h; simp [zaf]; simp at h; omega
 | cons y l ih =>
  intro n h
  simp only [List.length_cons] at h
  have hn : n < b.length := by omega
  have hg : b.getD n default = b[n] := by simp [List.getD, List.getElem?_eq_getElem hn]
  have hd := List.drop_eq_getElem_cons hn
  rw [zaf, if_pos hn, hg]
  generalize b[n] = z at hd
  rw [hd]
  by_cases hy : y = z
  rw [if_neg (by simpa using hy), ih (n + 1) (by omega)]
  simp only [hy, List.cons.injEq, true_and]
  rw [if_pos hy]
  simp only [hy, List.cons.injEq, false_and, if_false]
theorem zph (a b : List Int) : zaq a b = some (decide (a = b)) := by
 rw [zaq]
 by_cases h : (a.length : Int) = (b.length : Int)
 rw [if_neg (by simpa using h), zx6 b a 0 (by omega), List.drop_zero]
 by_cases hab : a = b <;> simp [hab]
 rw [if_pos h]
 have : a ≠ b := fun hh => h (by rw [hh])
 simp [this]
theorem zx5 (b : TAttempt) : ∀ (l : List TPromise) (n : Nat), n + l.length = b.Promises.length -> zar b l n = some (if l = b.Promises.drop n then .inr () else .inl false) := by
 intro l
 induction l with
 | nil => intro n h; simp [zar]; simp at h; omega
 | cons y l ih =>
  intro n h
  simp only [List.length_cons] at h
  have hn : n < b.Promises.length := by omega
  have hg : b.Promises.getD n default = b.Promises[n] := by simp [List.getD, List.getElem?_eq_getElem hn]
  have hd := List.drop_eq_getElem_cons hn
  rw [zar, if_pos hn, hg]
  generalize b.Promises[n] = z at hd
  rw [hd]
  have e : (y.Node = z.Node /\ y.Ballot = z.Ballot /\ y.Value = z.Value) ↔ y = z := by cases y; cases z; simp
  by_cases hy : y = z
  rw [if_neg (by simpa using e.2 hy), ih (n + 1) (by omega)]
  simp only [hy, List.cons.injEq, true_and]
  rw [if_pos (fun hh => hy (e.1 hh))]
  simp only [hy, List.cons.injEq, false_and, if_false]
theorem ya0a (a b : TAttempt) : zej a b = some (decide (a = b)) := by
 rw [zej]
 simp only [zph]
 have hp : a.Promises.length = b.Promises.length -> zar b a.Promises 0 = some (if a.Promises = b.Promises then .inr () else .inl false) := fun h => by
  rw [zx5 b a.Promises 0 (by omega), List.drop_zero]
 obtain ⟨p, bl, m, w, v, pr, ac⟩ := a
 obtain ⟨p', bl', m', w', v', pr', ac'⟩ := b
 simp only [TAttempt.mk.injEq] at hp ⊢
 by_cases h1 : p = p' <;> by_cases h2 : bl = bl' <;> by_cases h3 : m = m' <;> by_cases h4 : w = w' <;> by_cases h5 : v = v' <;> by_cases h7 : ac = ac' <;> by_cases h8 : (pr.length : Int) = (pr'.length : Int) <;>
  first
  | (have hq := hp (by omega)
     by_cases h6 : pr = pr'
     subst h6
     rw [if_pos rfl] at hq
     simp [h1, h2, h3, h4, h5, h7, hq]
     simp [h1, h2, h3, h4, h5, h6, h7, h8, hq])
  | (have h6 : pr ≠ pr' := fun hh => h8 (by rw [hh])
     simp [h1, h2, h3, h4, h5, h6, h7, h8])
def zAtt : TAttempt := ⟨0, 0, [], [], [], [], []⟩
noncomputable def zxf (a : TAttempt) (b : Int) (p : TPromise) : TAttempt × Int :=
 open Classical in
 if ¬ zfj a then (zAtt, 8) else if a.Phase ≠ 1 \/ b ≠ a.Ballot \/ p.Node ∉ a.Members then (zAtt, 6) else if ¬ MayS p b then (zAtt, 8) else (za9 a p, 0)
noncomputable def accA (a : TAttempt) (b n : Int) : TAttempt × Int :=
 open Classical in
 if ¬ zfj a then (zAtt, 8) else if a.Phase < 2 \/ b ≠ a.Ballot \/ n ∉ a.Members then (zAtt, 6) else (ze9 a n, 0)
theorem zw8 {α : Type} [Inhabited α] (key : α -> Int) (v : Int) (l : List α) (hl : l.length < 1000000) (f : Nat -> Int -> Option Int)
  (hf : ∀ fu (n : Nat), n <= l.length -> f (fu + 1) (n : Int) = if n < l.length /\ key (l.getD n default) < v then f fu ((n + 1 : Nat) : Int) else some (n : Int)) :
  ∀ (fu n : Nat), l.length - n < fu -> n <= l.length -> f fu (n : Int) = some ((n + plc key v (l.drop n) : Nat) : Int) := by
 intro fu
 induction fu with
 | zero => intro n h; omega
 | succ fu ih =>
  intro n h hn
  rw [hf fu n hn]
  by_cases hlt : n < l.length
  have hg : l.getD n default = l[n] := by simp [List.getD, List.getElem?_eq_getElem hlt]
  rw [List.drop_eq_getElem_cons hlt, hg]
  by_cases hk : key l[n] < v
  rw [if_pos ⟨hlt, hk⟩, ih (n + 1) (by omega) (by omega), plc, if_pos hk]
  congr 2; omega
  rw [if_neg (fun hh => hk hh.2), plc, if_neg hk, Nat.add_zero]
  rw [if_neg (fun hh => hlt hh.1), List.drop_of_length_le (by omega)]; rfl
theorem wr1 (n : Nat) (h : n < 1000000) : wr .i64 ((n : Int) + 1) = ((n + 1 : Nat) : Int) := zis _ _ (by show (-9223372036854775808 : Int) <= _; omega) (by show _ <= (9223372036854775807 : Int); omega)
theorem ya27 (a : TAttempt) (p : TPromise) (hl : a.Promises.length < 1000000) : zam a p (a.Promises.length + 1) 0 = some (plc TPromise.Node p.Node a.Promises : Int) := by
 have := zw8 TPromise.Node p.Node a.Promises hl (zam a p) (fun fu n hn => by
  rw [zam, if_pos (fun h => ⟨by omega, h⟩), Int.toNat_natCast]
  by_cases hlt : n < a.Promises.length
  rw [wr1 n (by omega)]
  have : (n : Int) < (a.Promises.length : Int) := by omega
  simp only [this, hlt, true_and]
  have : ¬ (n : Int) < (a.Promises.length : Int) := by omega
  simp only [this, hlt, false_and, if_false]) (a.Promises.length + 1) 0 (by omega) (by omega)
 rw [List.drop_zero, Nat.zero_add] at this
 exact this
theorem ya28 (a : TAttempt) (n : Int) (hl : a.Accepted.length < 1000000) : zan a n (a.Accepted.length + 1) 0 = some (plc (fun x : Int => x) n a.Accepted : Int) := by
 have := zw8 (fun x : Int => x) n a.Accepted hl (zan a n) (fun fu k hn => by
  rw [zan, if_pos (fun h => ⟨by omega, h⟩), Int.toNat_natCast]
  by_cases hlt : k < a.Accepted.length
  rw [wr1 k (by omega)]
  have : (k : Int) < (a.Accepted.length : Int) := by omega
  simp only [this, hlt, true_and]
  have : ¬ (k : Int) < (a.Accepted.length : Int) := by omega
  simp only [this, hlt, false_and, if_false]) (a.Accepted.length + 1) 0 (by omega) (by omega)
 rw [List.drop_zero, Nat.zero_add] at this
 exact this
theorem zpg (a : TAttempt) (h1 : a.Members.length < 1000000) (h2 : a.Promises.length < 1000000) (h3 : a.Accepted.length < 1000000) : zc8 a = some a := by
 rw [zc8, if_pos (by omega), if_pos (by omega), if_pos (by omega)]
theorem ya5t (a : TAttempt) (b : Int) (p : TPromise) (h : Ranged a) (hp : R64 p.Ballot) : zcf a b p = some (zxf a b p) := by
 obtain ⟨v, hm, hv⟩ := zso a h
 have := h.lp
 have := h.lm
 have := h.la
 rw [zcf, hm]
 unfold zxf
 simp only [Option.bind_some]
 by_cases hva : zfj a
 rw [if_neg (show ¬ ¬ zfj a from fun hh => hh hva), hv.2 hva, if_neg (show ¬ ¬ (true = true) by simp), zn6, zzc _ _ hp]
 by_cases k : (¬ (a.Phase = 1)) \/ (¬ (b = a.Ballot))
 rw [if_pos (show (a.Phase ≠ 1 \/ b ≠ a.Ballot \/ p.Node ∉ a.Members) from by rcases k with k | k; exact .inl k; exact .inr (.inl k))]
 simp [k, zAtt]
 have k1 : a.Phase = 1 := Classical.byContradiction fun hh => k (.inl hh)
 have k2 : b = a.Ballot := Classical.byContradiction fun hh => k (.inr hh)
 by_cases k3 : p.Node ∈ a.Members
 rw [if_neg (show ¬ (a.Phase ≠ 1 \/ b ≠ a.Ballot \/ p.Node ∉ a.Members) by rintro (hh | hh | hh); exact hh k1; exact hh k2; exact hh k3)]
 by_cases k4 : MayS p b
 rw [if_neg (show ¬ ¬ MayS p b by simpa using k4), zpg a (by omega) (by omega) (by omega), zqg _ (by omega)]
 simp only [zn6, k1, k2, k3, k4, decide_true, not_true_eq_false, or_self, if_false, not_false_eq_true, if_true, Option.bind_some]
 unfold za9
 rw [k2] at k4
 by_cases hin : p.Node ∈ a.Promises.map TPromise.Node
 rw [if_pos hin]
 simp [hin, k4]
 rw [if_neg hin]
 have hk := hva.kept (by omega)
 obtain ⟨l1, l2, l3⟩ := hk.lens
 have hle := ztu TPromise.Node p.Node a.Promises
 have htake := zpn TPromise.Node p a.Promises
 have hln := zvd TPromise.Node p a.Promises
 rw [ya27 a p (by omega)]
 simp only [hin, decide_false, Bool.false_eq_true, if_false, Option.bind_some, Int.toNat_natCast, k4, decide_true, not_true_eq_false]
 generalize plc TPromise.Node p.Node a.Promises = K at *
 have e1 : ((a.Promises.take K) ++ [p]) ++ (a.Promises.drop K) = insN p a.Promises := by rw [List.append_assoc]; exact htake
 rw [if_pos (by omega), if_pos (by simp; omega), if_pos (by simp; omega), if_pos (by omega), if_pos (by simp; omega), e1, zqg _ (by show (insK TPromise.Node p a.Promises).length < _; omega)]
 simp only [Option.bind_some, zr3 _ _ (show a.Members.length < 1000000 by omega), zww]
 unfold zul
 cases hmm : zkk a.Members ((insN p a.Promises).map TPromise.Node) with
 | true => simp [k1]
 | false => simp [k1]
 rw [if_pos k4]
 rw [k2] at k4
 simp [k1, k2, k3, k4, zAtt]
 rw [if_pos (show (a.Phase ≠ 1 \/ b ≠ a.Ballot \/ p.Node ∉ a.Members) from .inr (.inr k3))]
 simp [k1, k2, k3, zAtt]
 have : v = false := by
  cases v with
  | true => exact absurd (hv.1 rfl) hva
  | false => rfl
 rw [if_pos hva, this]
 simp [zAtt]
theorem accR (a : TAttempt) (b n : Int) (h : Ranged a) : zbv a b n = some (accA a b n) := by
 obtain ⟨v, hm, hv⟩ := zso a h
 have := h.lp
 have := h.lm
 have := h.la
 rw [zbv, hm]
 unfold accA
 simp only [Option.bind_some]
 by_cases hva : zfj a
 ·rw [if_neg (show ¬ ¬ zfj a from fun hh => hh hva), hv.2 hva, if_neg (show ¬ ¬ (true = true) by simp), zn6]
  by_cases k : (a.Phase < 2) \/ (¬ (b = a.Ballot))
  rw [if_pos (show (a.Phase < 2 \/ b ≠ a.Ballot \/ n ∉ a.Members) from by rcases k with k | k; exact .inl k; exact .inr (.inl k))]
  simp [k, zAtt]
  ·have k1 : ¬ a.Phase < 2 := fun hh => k (.inl hh)
   have k2 : b = a.Ballot := Classical.byContradiction fun hh => k (.inr hh)
   by_cases k3 : n ∈ a.Members
   ·rw [if_neg (show ¬ (a.Phase < 2 \/ b ≠ a.Ballot \/ n ∉ a.Members) by rintro (hh | hh | hh); exact k1 hh; exact hh k2; exact hh k3)]
    rw [zpg a (by omega) (by omega) (by omega)]
    simp only [zn6, k1, k2, k3, decide_true, not_true_eq_false, or_self, if_false, not_false_eq_true, if_true, Option.bind_some]
    have hk := hva.kept (by omega)
    obtain ⟨l1, l2, l3⟩ := hk.lens
    unfold ze9
    by_cases hin : n ∈ a.Accepted
    ·-- taken already: the phase tells whether most accepted
     rw [if_pos hin]
     simp only [hin, decide_true, if_true]
     congr 1
     have hc := hk.chosen
     by_cases hm3 : zkk a.Members a.Accepted = true
     ·rw [hm3] at hc
      have h3 : a.Phase = 3 := by simpa using hc.symm
      rw [if_pos hm3]
      cases a
      simp_all
     rw [if_neg hm3]
    rw [if_neg hin]
    have hle := ztu (fun x : Int => x) n a.Accepted
    have htake := zpn (fun x : Int => x) n a.Accepted
    rw [ya28 a n (by omega)]
    simp only [hin, decide_false, Bool.false_eq_true, if_false, Option.bind_some, Int.toNat_natCast]
    generalize plc (fun x : Int => x) n a.Accepted = K at *
    have e1 : ((a.Accepted.take K) ++ [n]) ++ (a.Accepted.drop K) = insI n a.Accepted := by rw [List.append_assoc]; exact htake
    rw [if_pos (by omega), if_pos (by simp; omega), if_pos (by simp; omega), if_pos (by omega), if_pos (by simp; omega), e1]
    simp only [Option.bind_some, zr3 _ _ (show a.Members.length < 1000000 by omega)]
    cases hmm : zkk a.Members (insI n a.Accepted) with
    | true => simp
    | false => simp
   rw [if_pos (show (a.Phase < 2 \/ b ≠ a.Ballot \/ n ∉ a.Members) from .inr (.inr k3))]
   simp [k1, k2, k3, zAtt]
 have : v = false := by
  cases v with
  | true => exact absurd (hv.1 rfl) hva
  | false => rfl
 rw [if_pos hva, this]
 simp [zAtt]
def In9 (x : Int) : Prop := 0 <= x /\ x <= 8388613
theorem In9.r {x : Int} (h : In9 x) : R64 x := by unfold R64; have := h.1; have := h.2; omega
theorem zxo : In9 0 := ⟨by decide, by decide⟩
theorem BOk.in9 {b : Int} (h : BOk b) (hr : R64 b) : In9 b := by
 unfold R64 at hr
 obtain ⟨h1, h2, h3⟩ := h
 rcases td8 b with ⟨k0, k1, k2⟩ | ⟨k0, k1, k2⟩
 rw [k1, wr64 _ (by omega)] at h1
 rw [k2] at h3
 exact ⟨k0, by omega⟩
 rw [k1, wr64 _ (by omega)] at h1
 omega
theorem MayS.in9 {p : TPromise} {b : Int} (h : MayS p b) (hr : R64 p.Ballot) : In9 p.Ballot := by
 unfold MayS at h
 split at h
 rename_i h0; rw [h0]; exact zxo
 exact h.1.in9 hr
structure RW (w : TWorld) : Prop where
 vote : ∀ i : Nat, i < 6 -> In9 (w.Votes.getD i default).Promised /\ In9 (w.Votes.getD i default).Ballot
 try_ : ∀ i : Nat, i < 6 -> In9 (w.Tries.getD i default).Ballot /\ ∀ p ∈ (w.Tries.getD i default).Promises, In9 p.Ballot
 mails : ∀ m ∈ w.Mail, In9 m.Ballot /\ R64 m.Prior
theorem RW.setVote {w : TWorld} (h : RW w) (hl : w.Votes.length = 6) (n : Nat) (v : TVote) (h1 : In9 v.Promised) (h2 : In9 v.Ballot) : RW { w with Votes := w.Votes.set n v } where
 vote i hi := by
  by_cases e : i = n
  subst e
  show In9 ((w.Votes.set i v).getD i default).Promised /\ In9 ((w.Votes.set i v).getD i default).Ballot
  rw [zey _ _ _ _ (by omega)]
  exact ⟨h1, h2⟩
  show In9 ((w.Votes.set n v).getD i default).Promised /\ In9 ((w.Votes.set n v).getD i default).Ballot
  rw [getD_set_ne _ _ _ _ _ e]
  exact h.vote i hi
 try_ := h.try_
 mails := h.mails
theorem RW.setTry {w : TWorld} (h : RW w) (hl : w.Tries.length = 6) (n : Nat) (a : TAttempt) (h1 : In9 a.Ballot) (h2 : ∀ p ∈ a.Promises, In9 p.Ballot) : RW { w with Tries := w.Tries.set n a } where
 vote := h.vote
 try_ i hi := by
  by_cases e : i = n
  subst e
  show In9 ((w.Tries.set i a).getD i default).Ballot /\ ∀ p ∈ ((w.Tries.set i a).getD i default).Promises, In9 p.Ballot
  rw [zey _ _ _ _ (by omega)]
  exact ⟨h1, h2⟩
  show In9 ((w.Tries.set n a).getD i default).Ballot /\ ∀ p ∈ ((w.Tries.set n a).getD i default).Promises, In9 p.Ballot
  rw [getD_set_ne _ _ _ _ _ e]
  exact h.try_ i hi
 mails := h.mails
theorem RW.setMail {w : TWorld} (h : RW w) (M : List TMail) (hM : ∀ m ∈ M, m ∈ w.Mail \/ (In9 m.Ballot /\ R64 m.Prior)) : RW { w with Mail := M } :=
 ⟨h.vote, h.try_, fun m hm => (hM m hm).elim (h.mails m) id⟩
theorem RW.tell {w : TWorld} (h : RW w) (m : TMail) (h1 : In9 m.Ballot) (h2 : R64 m.Prior) : RW (zlu w m) := by
 refine h.setMail _ fun k hk => ?_
 rcases List.mem_append.1 hk with hk | hk
 exact .inl hk
 obtain ⟨to, _, rfl⟩ := List.mem_map.1 hk
 exact .inr ⟨h1, h2⟩
theorem RW.taken {w : TWorld} (h : RW w) (hl : w.Tries.length = 6) (n b q : Int) (hn : 0 <= n /\ n < 6) : RW (zp2 w n b q) := by
 unfold zp2
 split
 have k := h.try_ n.toNat (by omega)
 have := h.setTry hl n.toNat (ze9 (trW w n) q) k.1 k.2
 exact ⟨this.vote, this.try_, this.mails⟩
 exact h
theorem RW.own {w : TWorld} (h : RW w) (hv : w.Votes.length = 6) (hl : w.Tries.length = 6) (n b : Int) (v : List UInt8) (hn : 0 <= n /\ n < 6) (hb : In9 b) : RW (ownVote w n b v) := by
 unfold Go.Proofs.ownVote
 split
 exact (h.setVote hv n.toNat ⟨b, b, v⟩ hb hb).taken hl n b n hn
 exact h
theorem RW.promised {w : TWorld} (h : RW w) (hv : w.Votes.length = 6) (hl : w.Tries.length = 6) (n b : Int) (p : TPromise) (hn : 0 <= n /\ n < 6) (hb : In9 b) (hp : R64 p.Ballot) : RW (zhn w n b p) := by
 unfold zhn
 split
 case isFalse => exact h
 rename_i hcan
 obtain ⟨e1, _, _, _⟩ := zmu (trW w n) p
 have k := h.try_ n.toNat (by omega)
 have h2 := h.setTry hl n.toNat (za9 (trW w n) p) (e1 ▸ k.1) fun q hq => by
  rcases zp7 q hq with rfl | hq
  exact hcan.2.2.2.2.in9 hp
  exact k.2 q hq
 split
 exact h2
 exact (h2.tell ⟨n, 0, 3, 0, 0, b, 0, (za9 (trW w n) p).Value, 0, 0⟩ hb zxo.r).own hv (by show (w.Tries.set _ _).length = 6; simpa using hl) n b _ hn hb
theorem RW.pre {w : TWorld} (h : RW w) (hv : w.Votes.length = 6) (hl : w.Tries.length = 6) (n b : Int) (t : List UInt8) (hn : 0 <= n /\ n < 6) (hb : In9 b) : RW (preW w n b t) := by
 have k := h.vote n.toNat (by omega)
 have h1 := h.setVote hv n.toNat { vtW w n with Promised := b } hb k.2
 have h2 := h1.setTry hl n.toNat ⟨1, b, w.Members, t, [], [], []⟩ hb fun p hp => by cases hp
 exact h2.tell ⟨n, 0, 1, 0, 0, b, 0, [], 0, 0⟩ hb zxo.r
theorem RW.ranged {w : TWorld} (h : RW w) (hg : WG w) (i : Nat) (hi : i < 6) : Ranged (w.Tries.getD i default) := by
 have k := h.try_ i hi
 have v := (hg.try_ i hi).1
 obtain ⟨l1, l2, l3⟩ := v.len
 refine ⟨?_, k.1.r, fun p hp => (k.2 p hp).r, by omega, by omega, by omega⟩
 unfold zfj at v
 split at v
 omega
 rcases v.1 with h1 | h1 | h1 <;> omega
theorem zpc (a : TAttempt) (p : TPromise) (h : a.Phase = 1) : (za9 a p).Phase = 1 \/ (za9 a p).Phase = 2 := by
 unfold za9 zul
 split
 exact .inl h
 split
 exact .inr rfl
 exact .inl h
theorem zyv {a : TAttempt} {b : Int} {p : TPromise} (h : CanP a b p) : zxf a b p = (za9 a p, 0) := by
 obtain ⟨h1, h2, h3, h4, h5⟩ := h
 unfold zxf
 rw [if_neg (by simpa using h1), if_neg (by simp [h2, h3, h4]), if_neg (by simpa using h5)]
theorem zyu {a : TAttempt} {b : Int} {p : TPromise} (h : ¬ CanP a b p) : (zxf a b p).2 ≠ 0 := by
 unfold zxf
 split
 simp
 rename_i h1
 split
 simp
 rename_i h2
 split
 simp
 rename_i h3
 simp only [not_or, Classical.not_not] at h1 h2 h3
 exact absurd ⟨h1, h2.1, h2.2.1, h2.2.2, h3⟩ h
theorem zwy {a : TAttempt} {b n : Int} (h : CanA a b n) : accA a b n = (ze9 a n, 0) := by
 obtain ⟨h1, h2, h3, h4⟩ := h
 unfold accA
 rw [if_neg (by simpa using h1), if_neg (by simp [h3, h4]; omega)]
theorem ya17 {a : TAttempt} {b n : Int} (h : ¬ CanA a b n) : (accA a b n).2 ≠ 0 := by
 unfold accA
 split
 simp
 rename_i h1
 split
 simp
 rename_i h2
 simp only [not_or, Classical.not_not] at h1 h2
 exact absurd ⟨h1, by omega, h2.2.1, h2.2.2⟩ h
theorem may7 (v : TVote) (h1 : In9 v.Promised) (h2 : In9 v.Ballot) : zch v = some (decide (VOk v)) := by
 rw [zch, zjl _ h1.r, zjl _ h2.r]
 unfold VOk
 by_cases e1 : v.Promised = 0 <;> by_cases e2 : v.Ballot = 0 <;> by_cases e3 : BOk v.Promised <;> by_cases e4 : BOk v.Ballot <;> simp_all
 all_goals first | (by_cases h : v.Value = [] <;> simp [h]; done) | (by_cases h : v.Ballot <= v.Promised <;> by_cases h' : v.Value.length <= 1024 <;> simp [h, h'] <;> omega) | skip
theorem ya4i {v : TVote} {b : Int} (hv : VOk v) (h1 : In9 v.Promised) (h2 : In9 v.Ballot) (hb : BOk b) (hr : R64 b) : zcs v b = some (if b < v.Promised then ((⟨0, 0, []⟩ : TVote), 70) else (⟨b, v.Ballot, v.Value⟩, 0)) := by
 rw [zcs, zdc, may7 v h1 h2, zjl _ hr]
 simp only [hv, hb, decide_true, Option.bind_some, not_true_eq_false, if_false]
 split <;> rfl
theorem acc7 {v : TVote} {b : Int} {t : List UInt8} (hv : VOk v) (h1 : In9 v.Promised) (h2 : In9 v.Ballot) (hb : BOk b) (hr : R64 b) (ht : t.length <= 1024) : zcz v b t = some (if b < v.Promised then ((⟨0, 0, []⟩ : TVote), 70) else (⟨b, b, t⟩, 0)) := by
 rw [zcz, zdc, may7 v h1 h2, zjl _ hr]
 simp only [hv, hb, decide_true, Option.bind_some, not_true_eq_false, if_false]
 rw [if_neg (by omega)]
 split <;> rfl
theorem zv2 (w : TWorld) (m : TMail) (h6 : w.Members.length <= 6) : ∀ (k n fu : Nat) (l : List TMail) (j : Int), n + k = w.Members.length -> k < fu -> l.length + k < 1000000 -> zat w m fu l j (n : Int) = some { w with Mail := l ++ ((w.Members.drop n).filter fun to => decide (to ≠ m.From)).map fun to => { m with To := to } } := by
 intro k
 induction k with
 | zero =>
  intro n fu l j hn hf _
  obtain ⟨f, rfl⟩ : ∃ f, fu = f + 1 := ⟨fu - 1, by omega⟩
  rw [zat, if_neg (by omega), List.drop_eq_nil_of_le (by omega)]
  simp
 | succ k ih =>
  intro n fu l j hn hf hl
  obtain ⟨f, rfl⟩ : ∃ f, fu = f + 1 := ⟨fu - 1, by omega⟩
  have hlt : n < w.Members.length := by omega
  have hd := List.drop_eq_getElem_cons hlt
  have hg : w.Members.getD n default = w.Members[n] := by
   rw [List.getD_eq_getElem?_getD, List.getElem?_eq_getElem hlt]
   rfl
  rw [zat, if_pos (by omega), if_pos (by omega)]
  simp only [Int.toNat_natCast]
  rw [hg, hd, wr64 _ (by omega), show (n : Int) + 1 = ((n + 1 : Nat) : Int) from rfl]
  by_cases he : w.Members[n] = m.From
  rw [if_neg (by simpa using he)]
  simp only [Option.bind_some]
  rw [ih (n + 1) f l _ (by omega) (by omega) (by omega)]
  simp [he]
  rw [if_pos he, if_pos (by omega), if_pos (by simp; omega)]
  simp only [Option.bind_some]
  rw [ih (n + 1) f _ _ (by omega) (by omega) (by simp; omega), List.filter_cons, if_pos (by simpa using he), List.map_cons, List.append_assoc]
  rfl
theorem ztv (w : TWorld) (m : TMail) (h6 : w.Members.length <= 6) (hl : w.Mail.length <= 2000) : zcx w m = some (zlu w m) := by
 rw [zcx]
 have := zv2 w m h6 w.Members.length 0 (w.Members.length + 1) w.Mail m.To (by omega) (by omega) (by omega)
 rw [show ((0 : Nat) : Int) = 0 from rfl] at this
 exact this
theorem zwn (w : TWorld) (n was : Int) (hn : 0 <= n /\ n < 6) (ht : w.Tries.length = 6) (hc : w.Chosen.length <= 2000) : zd9 w n was = some { w with Chosen := if (trW w n).Phase = 3 /\ was ≠ 3 then w.Chosen ++ [⟨n, (trW w n).Value⟩] else w.Chosen } := by
 rw [zd9, if_pos (fun _ => by omega)]
 by_cases h : ¬ (was = 3) /\ (w.Tries.getD n.toNat default).Phase = 3
 rw [if_pos h, if_pos (by omega), if_pos (by simp; omega), if_pos ⟨h.2, h.1⟩]
 rw [if_neg h, if_neg (fun k => h ⟨k.2, k.1⟩)]
structure Sm (w : TWorld) : Prop where
 good : WG w
 rw9 : RW w
 mail : w.Mail.length <= 1500
 ch : w.Chosen.length <= 1500
theorem zw1 (w : TWorld) (n b : Int) (p : TPromise) (hn : 0 <= n /\ n < 6) (h : Sm w) (hp : R64 p.Ballot) : zd8 w n b p = some (zhn w n b p) := by
 have hg := h.good
 have hr := h.rw9
 have ht := hg.trs
 have hv := hg.vts
 have h6 := hg.mem.1
 have hml := h.mail
 have hcl := h.ch
 rw [zd8, if_pos (by omega), ya5t (trW w n) b p (hr.ranged hg n.toNat (by omega)) hp]
 simp only [Option.bind_some]
 by_cases hc : CanP (trW w n) b p
 rw [zyv hc]
 simp only [not_true_eq_false, if_false]
 rw [if_pos (by omega)]
 unfold zhn
 rw [if_pos hc]
 obtain ⟨e1, e2, _, _⟩ := zmu (trW w n) p
 by_cases h1 : (za9 (trW w n) p).Phase = 1
 rw [if_pos (by omega), if_pos h1]
 have h2 : (za9 (trW w n) p).Phase = 2 := (zpc _ p hc.2.1).resolve_left h1
 rw [if_neg (by simpa using h2), if_neg h1]
 have hb : (za9 (trW w n) p).Ballot = b := e1.trans hc.2.2.1.symm
 rw [hb]
 rw [ztv { w with Tries := w.Tries.set n.toNat (za9 (trW w n) p) } ⟨n, 0, 3, 0, 0, b, 0, (za9 (trW w n) p).Value, 0, 0⟩ h6 (by show w.Mail.length <= _; omega)]
 simp only [Option.bind_some]
 have hmb : (zlu { w with Tries := w.Tries.set n.toNat (za9 (trW w n) p) } ⟨n, 0, 3, 0, 0, b, 0, (za9 (trW w n) p).Value, 0, 0⟩).Members = w.Members := rfl
 have hvb : (zlu { w with Tries := w.Tries.set n.toNat (za9 (trW w n) p) } ⟨n, 0, 3, 0, 0, b, 0, (za9 (trW w n) p).Value, 0, 0⟩).Votes = w.Votes := rfl
 have htb : (zlu { w with Tries := w.Tries.set n.toNat (za9 (trW w n) p) } ⟨n, 0, 3, 0, 0, b, 0, (za9 (trW w n) p).Value, 0, 0⟩).Tries = w.Tries.set n.toNat (za9 (trW w n) p) := rfl
 have hcb : (zlu { w with Tries := w.Tries.set n.toNat (za9 (trW w n) p) } ⟨n, 0, 3, 0, 0, b, 0, (za9 (trW w n) p).Value, 0, 0⟩).Chosen = w.Chosen := rfl
 generalize hX : zlu { w with Tries := w.Tries.set n.toNat (za9 (trW w n) p) } ⟨n, 0, 3, 0, 0, b, 0, (za9 (trW w n) p).Value, 0, 0⟩ = X at hmb hvb htb hcb
 have hph : (trW w n).Phase ≠ 0 := by have := hc.2.1; omega
 have hmem : (trW w n).Members = w.Members := ((hg.try_ n.toNat (by omega)).2 hph).2
 have hval := znq (a := trW w n) (p := p) ⟨hc.1, hc.2.1, rfl, hc.2.2.2.1, hc.2.2.1 ▸ hc.2.2.2.2⟩
 have hbk : BOk b := hc.2.2.1 ▸ (hc.1.kept hph).ballot
 have hbr : R64 b := hc.2.2.1 ▸ (hr.try_ n.toNat (by omega)).1.r
 have hvv := hg.vote n.toNat (by omega)
 have hvr := hr.vote n.toNat (by omega)
 rw [zn6]
 simp only [Option.bind_some, hmb]
 unfold Go.Proofs.ownVote
 have htX : trW X n = za9 (trW w n) p := by
  show X.Tries.getD n.toNat default = _
  rw [htb, zey _ _ _ _ (by omega)]
 have hvX : vtW X n = vtW w n := by show X.Votes.getD n.toNat default = _; rw [hvb]
 rw [hmb, hvX]
 by_cases hin : n ∈ w.Members
 rw [if_neg (by simpa using hin), if_pos (by rw [hvb]; omega)]
 rw [show X.Votes.getD n.toNat default = vtW w n from hvX, acc7 hvv.1 hvr.1 hvr.2 hbk hbr hval.value.1]
 simp only [Option.bind_some]
 by_cases hlt : b < (vtW w n).Promised
 rw [if_pos hlt, if_pos (by simp), if_neg (fun h => by have := h.2.2.2.2; omega)]
 rw [if_neg hlt]
 simp only [not_true_eq_false, if_false]
 rw [if_pos (by rw [hvb]; omega), if_pos ⟨hin, hvv.1, hbk, hval.value.1, by omega⟩]
 have hran : Ranged (za9 (trW w n) p) := by
  have k := (h.rw9.promised hv ht n b p hn (hc.2.2.1 ▸ (hr.try_ n.toNat (by omega)).1) hp)
  obtain ⟨l1, l2, l3⟩ := hval.len
  refine ⟨by omega, by rw [hb]; exact hbr, fun q hq => ?_, by omega, by omega, by omega⟩
  rcases zp7 q hq with rfl | hq
  exact hp
  exact ((hr.try_ n.toNat (by omega)).2 q hq).r
 have hcan : CanA (za9 (trW w n) p) b n := ⟨hval, by omega, hb.symm, by rw [e2, hmem]; exact hin⟩
 rw [accR _ b n hran, zwy hcan]
 simp only [Option.bind_some]
 rw [if_pos (by rw [htb]; simp; omega)]
 rw [zwn _ n _ hn (by show (X.Tries.set _ _).length = 6; rw [htb]; simpa using ht) (by show X.Chosen.length <= 2000; rw [hcb]; omega)]
 simp only [Option.bind_some]
 unfold zp2
 have htY : trW { X with Votes := X.Votes.set n.toNat ⟨b, b, (za9 (trW w n) p).Value⟩ } n = za9 (trW w n) p := htX
 rw [htY, if_pos hcan]
 have htZ : trW { X with Votes := X.Votes.set n.toNat ⟨b, b, (za9 (trW w n) p).Value⟩, Tries := X.Tries.set n.toNat (ze9 (za9 (trW w n) p) n) } n = ze9 (za9 (trW w n) p) n := by
  show (X.Tries.set n.toNat (ze9 (za9 (trW w n) p) n)).getD n.toNat default = _
  rw [zey _ _ _ _ (by rw [htb]; simp; omega)]
 rw [htZ]
 rw [if_pos (by simpa using hin), if_neg (fun h => hin h.1)]
 rw [if_pos (by simpa using zyu hc)]
 unfold zhn
 rw [if_neg hc]
theorem ya12 (w : TWorld) (m : TMail) (hm : MOk m) (h : Sm w) (h1 : In9 m.Ballot) (h2 : R64 m.Prior) : ze6 w m = some (zvq w m) := by
 have hg := h.good
 have hr := h.rw9
 have ht := hg.trs
 have hv := hg.vts
 have hml := h.mail
 have hcl := h.ch
 obtain ⟨hf, hto, hk1, hk2, hbk, hpr, hval, _⟩ := hm
 have hvv := hg.vote m.To.toNat (by omega)
 have hvr := hr.vote m.To.toNat (by omega)
 have hset : w.Votes.set m.To.toNat (vtW w m.To) = w.Votes := zs8 w.Votes m.To.toNat default
 rw [ze6, if_pos (by omega)]
 have hb1 : (if m.Kind = 1 then some (m.Kind == 1) else some (m.Kind == 3)) = some (decide (m.Kind = 1 \/ m.Kind = 3)) := by
  by_cases k1 : m.Kind = 1 <;> by_cases k3 : m.Kind = 3 <;> simp [k1, k3]
 rw [hb1]
 simp only [Option.bind_some, decide_eq_true_eq]
 unfold zvq
 by_cases k13 : m.Kind = 1 \/ m.Kind = 3
 rw [if_pos k13, if_neg (by omega), if_neg (by omega), if_neg (by omega)]
 rw [show w.Votes.getD m.To.toNat default = vtW w m.To from rfl, ya4i hvv.1 hvr.1 hvr.2 hbk h1.r]
 simp only [Option.bind_some]
 by_cases k3 : m.Kind = 3
 rw [if_pos k3, if_neg (by omega : ¬ m.Kind = 1), acc7 hvv.1 hvr.1 hvr.2 hbk h1.r hval]
 simp only [Option.bind_some]
 by_cases hlt : m.Ballot < (vtW w m.To).Promised
 simp only [if_pos hlt, if_true, Option.bind_some]
 rw [if_pos (by omega), if_pos (by simp; omega), if_neg (fun k => by have := k.2.2.2; omega)]
 have e : (⟨(vtW w m.To).Promised, (vtW w m.To).Ballot, (vtW w m.To).Value⟩ : TVote) = vtW w m.To := rfl
 rw [e, hset]
 rfl
 simp only [if_neg hlt]
 rw [if_neg (by decide)]
 simp only [Option.bind_some]
 rw [if_pos (by omega), if_pos (by simp; omega), if_pos ⟨hvv.1, hbk, hval, by omega⟩]
 rfl
 have k1 : m.Kind = 1 := k13.resolve_right k3
 rw [if_neg k3, if_pos k1]
 by_cases hlt : m.Ballot < (vtW w m.To).Promised
 simp only [if_pos hlt, if_true, Option.bind_some]
 rw [if_pos (by omega), if_pos (by simp; omega), if_neg (fun k => by have := k.2.2.2; omega)]
 have e : (⟨(vtW w m.To).Promised, (vtW w m.To).Ballot, (vtW w m.To).Value⟩ : TVote) = vtW w m.To := rfl
 rw [e, hset]
 rfl
 simp only [if_neg hlt, Option.bind_some]
 rw [if_neg (by decide)]
 simp only [Option.bind_some]
 rw [if_pos (by omega), if_pos (by simp; omega), if_pos ⟨hvv.1, hbk, by simp, by omega⟩]
 rfl
 rw [if_neg k13]
 by_cases k2 : m.Kind = 2
 rw [if_pos k2, if_pos k2, zw1 w m.To m.Ballot ⟨m.From, m.Prior, m.Value⟩ hto h h2]
 rfl
 rw [if_neg k2, if_neg k2]
 by_cases k4 : m.Kind = 4
 rw [if_pos k4, if_pos k4, if_pos (by omega), accR _ _ _ (hr.ranged hg m.To.toNat (by omega))]
 simp only [Option.bind_some]
 unfold zp2
 by_cases hc : CanA (trW w m.To) m.Ballot m.From
 rw [show accA (w.Tries.getD m.To.toNat default) m.Ballot m.From = (ze9 (trW w m.To) m.From, 0) from zwy hc, if_pos hc]
 simp only [if_true]
 rw [if_pos (by omega), if_pos (by omega), zwn _ m.To _ hto (by show (w.Tries.set _ _).length = 6; simpa using ht) (by show w.Chosen.length <= 2000; omega)]
 simp only [Option.bind_some]
 have htZ : trW { w with Tries := w.Tries.set m.To.toNat (ze9 (trW w m.To) m.From) } m.To = ze9 (trW w m.To) m.From := by
  show (w.Tries.set m.To.toNat (ze9 (trW w m.To) m.From)).getD m.To.toNat default = _
  rw [zey _ _ _ _ (by omega)]
 rw [htZ]
 rw [if_neg (show ¬ (accA (w.Tries.getD m.To.toNat default) m.Ballot m.From).2 = 0 from ya17 hc), if_neg hc]
 rw [if_neg k4, if_neg k4, if_pos (by omega)]
theorem zpy (l : List Int) : ∀ pre : List Int, zaf (pre ++ l) l pre.length = some (.inr ()) := by
 induction l with
 | nil => intro pre; rfl
 | cons y l ih =>
  intro pre
  have hg : (pre ++ y :: l).getD pre.length default = y := by simp
  have hi := ih (pre ++ [y])
  rw [List.append_assoc, List.singleton_append] at hi
  rw [List.length_append, List.length_singleton] at hi
  rw [zaf, if_pos (by simp)]
  simp only [hg]
  simp [hg, hi]
theorem zx4 (l : List Int) : zaq l l = some true := by
 have := zpy l []
 rw [List.nil_append, List.length_nil] at this
 rw [zaq, this]; simp
theorem ztw (n : Int) : zbh n = some (decide (0 <= n /\ n < 6)) := by
 rw [zbh]
 by_cases h1 : 0 <= n <;> by_cases h2 : n < 6 <;> simp [h1, h2]
theorem zxk (m : TMail) (hm : MOk m) (h1 : In9 m.Ballot) : zbz m = some true := by
 obtain ⟨hf, hto, hk1, hk2, hbk, hpr, hval, hz1, hz2, hz3, hz4⟩ := hm
 rw [zbz, ztw, ztw, zjl _ h1.r]
 have e1 : decide (0 <= m.From /\ m.From < 6) = true := by simpa using hf
 have e2 : decide (0 <= m.To /\ m.To < 6) = true := by simpa using hto
 have e3 : decide (BOk m.Ballot) = true := by simpa using hbk
 rw [e1, e2, e3]
 have l1 : (m.Value.length : Int) <= 1024 := by omega
 simp [hz1, hz2, hz3, hz4, hk1, hk2, hpr, l1]
theorem ya1g : ∀ l : List TChoice, (∀ c ∈ l, (0 <= c.Node /\ c.Node < 6) /\ c.Value.length <= 1024) -> zb8 l = some (.inr ())
 | [], _ => zes
 | c :: l, h => by
  have h1 := h c (List.mem_cons_self ..)
  rw [zet, ztw]
  simp only [Option.bind_some]
  rw [if_neg (by simp; omega)]
  exact ya1g l fun k hk => h k (List.mem_cons_of_mem _ hk)
theorem ya1h : ∀ l : List TMail, (∀ m ∈ l, MOk m /\ In9 m.Ballot) -> zal l = some (.inr ())
 | [], _ => by rw [zal]
 | c :: l, h => by
  have h1 := h c (List.mem_cons_self ..)
  rw [zal, zxk c h1.1 h1.2]
  simp only [Option.bind_some]
  rw [if_neg (by simp)]
  exact ya1h l fun k hk => h k (List.mem_cons_of_mem _ hk)
theorem ya4p (w : TWorld) (hg : WG w) (hr : RW w) : ∀ (k n fu : Nat), n + k = 6 -> k < fu -> zad w fu (n : Int) = some (.inr ()) := by
 intro k
 induction k with
 | zero =>
  intro n fu hn hf
  obtain ⟨f, rfl⟩ : ∃ f, fu = f + 1 := ⟨fu - 1, by omega⟩
  rw [zad, if_neg (by omega)]
 | succ k ih =>
  intro n fu hn hf
  obtain ⟨f, rfl⟩ : ∃ f, fu = f + 1 := ⟨fu - 1, by omega⟩
  have ht := hg.trs
  have hv := hg.vts
  have hn6 : n < 6 := by omega
  rw [zad, if_pos (by omega), if_pos (by omega), if_pos (by omega)]
  simp only [Int.toNat_natCast]
  have hvo := hg.vote n hn6
  have hvr := hr.vote n hn6
  obtain ⟨b, hb1, hb2⟩ := zso (w.Tries.getD n default) (hr.ranged hg n hn6)
  have hbt : b = true := hb2.2 (hg.try_ n hn6).1
  rw [may7 _ hvr.1 hvr.2, hb1, hbt]
  have e1 : decide (VOk (w.Votes.getD n default)) = true := by simpa using hvo.1
  rw [e1]
  simp only [Option.bind_some, not_true_eq_false, not_false_eq_true, if_true, or_self, true_and]
  by_cases h0 : (w.Tries.getD n default).Phase = 0
  simp only [h0, not_true_eq_false, false_and, if_false, Option.bind_some, or_self]
  rw [wr64 _ (by omega), show (n : Int) + 1 = ((n + 1 : Nat) : Int) from rfl]
  exact ih (n + 1) f (by omega) (by omega)
  obtain ⟨o1, o2⟩ := (hg.try_ n hn6).2 h0
  have hkb := ((hg.try_ n hn6).1.kept h0).ballot
  have o3 : (w.Tries.getD n default).Ballot.tmod 8 = (n : Int) := by
   unfold ownB at o1
   have := hkb.2.1
   omega
  rw [o2, o3, zx4]
  simp only [h0, not_true_eq_false, not_false_eq_true, and_self, if_true, Option.bind_some, or_self, and_false, if_false]
  rw [wr64 _ (by omega), show (n : Int) + 1 = ((n + 1 : Nat) : Int) from rfl]
  exact ih (n + 1) f (by omega) (by omega)
theorem may9 (w : TWorld) (hg : WG w) (hr : RW w) (h1 : w.Mail.length <= 1000) (h2 : w.Chosen.length <= 1000) : zcg w = some true := by
 have ht := hg.trs
 have hv := hg.vts
 rw [zcg, ya0f]
 simp only [Option.bind_some]
 have e1 : decide (QOk w.Members) = true := by simpa using hg.mem
 rw [e1, if_neg (by simp; omega)]
 have := ya4p w hg hr 6 0 7 (by omega) (by omega)
 rw [show ((0 : Nat) : Int) = 0 from rfl] at this
 rw [this]
 simp only [Option.bind_some]
 rw [ya1h w.Mail fun m hm => ⟨hg.mails m hm, (hr.mails m hm).1⟩]
 simp only [Option.bind_some]
 rw [ya1g w.Chosen hg.chs]
 simp only [Option.bind_some]
theorem zx0 (w : TWorld) (hg : WG w) : ∀ (k n fu : Nat) (l : List TAttempt), n + k = 6 -> k < fu -> l.length = n -> zah w fu l (n : Int) = some (l ++ w.Tries.drop n) := by
 intro k
 induction k with
 | zero =>
  intro n fu l hn hf hl
  have ht := hg.trs
  obtain ⟨f, rfl⟩ : ∃ f, fu = f + 1 := ⟨fu - 1, by omega⟩
  rw [zah, if_neg (by omega), List.drop_eq_nil_of_le (by omega)]
  simp
 | succ k ih =>
  intro n fu l hn hf hl
  have ht := hg.trs
  obtain ⟨f, rfl⟩ : ∃ f, fu = f + 1 := ⟨fu - 1, by omega⟩
  have hlt : n < w.Tries.length := by omega
  have hd := List.drop_eq_getElem_cons hlt
  have hgd : w.Tries.getD n default = w.Tries[n] := by
   rw [List.getD_eq_getElem?_getD, List.getElem?_eq_getElem hlt]
   rfl
  obtain ⟨l1, l2, l3⟩ := (hg.try_ n (by omega)).1.len
  rw [zah, if_pos (by omega), if_pos (by omega)]
  simp only [Int.toNat_natCast]
  rw [zpg _ (by omega) (by omega) (by omega)]
  simp only [Option.bind_some]
  rw [if_pos (by simp; omega), wr64 _ (by omega), show (n : Int) + 1 = ((n + 1 : Nat) : Int) from rfl, ih (n + 1) f _ (by omega) (by omega) (by simp; omega), hd, hgd]
  simp
theorem ya5l (w : TWorld) (hg : WG w) (h1 : w.Mail.length <= 1000) (h2 : w.Chosen.length <= 1000) : zb1 w = some w := by
 have ht := hg.trs
 have hv := hg.vts
 have hm := hg.mem.1
 rw [zb1, if_pos (by omega), if_pos (by omega), if_pos (by omega), if_pos (by omega)]
 have := zx0 w hg 6 0 (w.Tries.length + 1) [] (by omega) (by omega) rfl
 rw [show ((0 : Nat) : Int) = 0 from rfl] at this
 rw [this]
 simp
def zxj (a n : Int) : Int := if a / 8 * 8 + n <= a \/ a / 8 * 8 + n < 8 then a / 8 * 8 + n + 8 else a / 8 * 8 + n
def zpd (a n : Int) : Int × Int := if zxj a n > 8388613 then (0, 9) else (zxj a n, 0)
theorem ya4l (a n : Int) (hn : 0 <= n /\ n < 6) (ha : In9 a) : zex a n = some (zpd a n) := by
 obtain ⟨h1, h2⟩ := hn
 obtain ⟨h3, h4⟩ := ha
 rw [zex, zt2]
 simp only [Option.bind_some]
 rw [if_neg (by simp; omega)]
 have e1 : a.tdiv 8 = a / 8 := Int.tdiv_eq_ediv_of_nonneg h3
 have e2 : wr .i64 (a / 8) = a / 8 := wr64 _ (by omega)
 have e3 : wr .i64 (a / 8 * 8) = a / 8 * 8 := wr64 _ (by omega)
 have e4 : wr .i64 (a / 8 * 8 + n) = a / 8 * 8 + n := wr64 _ (by omega)
 have e5 : wr .i64 (a / 8 * 8 + n + 8) = a / 8 * 8 + n + 8 := wr64 _ (by omega)
 simp only [e1, e2, e3, e4, e5]
 unfold zpd zxj
 split
 simp only [Option.bind_some]
 split <;> rfl
 simp only [Option.bind_some]
 split <;> rfl
theorem ya5u (a n : Int) (hn : 0 <= n /\ n < 6) (ha : In9 a) : zdm a n = some (zpd a n) := by
 obtain ⟨h1, h2⟩ := hn
 obtain ⟨h3, h4⟩ := ha
 rw [zdm, ztw]
 simp only [Option.bind_some]
 rw [if_neg (by simp; omega)]
 have e1 : a.tdiv 8 = a / 8 := Int.tdiv_eq_ediv_of_nonneg h3
 have e0 : a.tmod 8 = a % 8 := Int.tmod_eq_emod_of_nonneg h3
 have e2 : wr .i64 (a / 8) = a / 8 := wr64 _ (by omega)
 have e3 : wr .i64 (a / 8 + 1) = a / 8 + 1 := wr64 _ (by omega)
 simp only [e0, e1, e2, e3]
 have hq : ∃ q : Int, (if a % 8 >= n then some (a / 8 + 1) else some (a / 8)) = some q /\ 0 <= q /\ q <= 1048577 /\ max q 1 * 8 + n = zxj a n := by
  unfold zxj
  by_cases k : a % 8 >= n
  refine ⟨a / 8 + 1, if_pos k, by omega, by omega, ?_⟩
  rw [if_pos (by omega)]
  omega
  refine ⟨a / 8, if_neg k, by omega, by omega, ?_⟩
  by_cases k2 : a / 8 = 0
  rw [if_pos (by omega)]
  omega
  rw [if_neg (by omega)]
  omega
 obtain ⟨q, hq1, hq2, hq3, hq4⟩ := hq
 rw [hq1]
 simp only [Option.bind_some]
 have e6 : wr .i64 (max q 1 * 8) = max q 1 * 8 := wr64 _ (by omega)
 have e7 : wr .i64 (max q 1 * 8 + n) = max q 1 * 8 + n := wr64 _ (by omega)
 rw [e6, e7, hq4]
 unfold zpd
 by_cases k : max q 1 > 1048576
 rw [if_pos k, if_pos (by omega)]
 rw [if_neg k, if_neg (by omega)]
theorem zwc (a n : Int) (hn : 0 <= n /\ n < 6) (ha : In9 a) (h0 : (zpd a n).2 = 0) : a < (zpd a n).1 /\ 8 <= (zpd a n).1 /\ BOk (zpd a n).1 /\ ownB (zpd a n).1 = n.toNat /\ In9 (zpd a n).1 := by
 obtain ⟨r, hr, k⟩ := ya2d a n
 rw [ya4l a n hn ha] at hr
 cases hr
 obtain ⟨_, _, _, k1, k2, k3, k4⟩ := k h0
 refine ⟨k1, k2, k3, k4, by omega, ?_⟩
 unfold zpd at h0 ⊢
 split at h0
 simp at h0
 rename_i h1
 rw [if_neg h1]
 show zxj a n <= _
 omega
theorem begA (m : List Int) (b : Int) (t : List UInt8) (hq : QOk m) (hb : BOk b) (hw : t.length <= 1024) : zft m b t = some (⟨1, b, m, t, [], [], []⟩, 0) := by
 rw [zft, znp, if_neg (by have := hq.1; omega), if_pos hq.2]
 simp only [Option.bind_some, not_true_eq_false, if_false, zku]
 rw [if_pos hb]
 simp only [not_true_eq_false, if_false]
 rw [if_neg (by omega), zaw, if_pos (by have := hq.1; omega)]
 rfl
theorem ya1y (l : List Int) : ze8 l = some (if l.length > 6 then 4 else if zdr (-1) l = true /\ l ≠ [] then 0 else 60) := by
 rw [ze8, ya0f]
 simp only [Option.bind_some]
 by_cases h1 : l.length > 6
 rw [if_pos (by omega), if_pos h1]
 rw [if_neg (by omega), if_neg h1]
 by_cases h2 : zdr (-1) l = true /\ l ≠ []
 have : QOk l := ⟨by omega, h2⟩
 simp [this, h2]
 have : ¬ QOk l := fun h => h2 h.2
 rw [if_neg h2]
 simp [this]
theorem begR (m : List Int) (b : Int) (t : List UInt8) (hq : QOk m) (hb : BOk b) (hr : R64 b) (hw : t.length <= 1024) : zdb m b t = some (⟨1, b, m, t, [], [], []⟩, 0) := by
 rw [zdb, ya1y, if_neg (by have := hq.1; omega), if_pos hq.2]
 simp only [Option.bind_some, if_true]
 rw [zfa, zjl _ hr]
 simp only [hb, decide_true, Option.bind_some, not_true_eq_false, if_false]
 rw [if_neg (by omega)]
 simp only [Option.bind_some, not_true_eq_false, if_false]
 rw [if_pos (by have := hq.1; omega)]
theorem Sm.pre {w : TWorld} (h : Sm w) (h1 : w.Mail.length <= 1000) (n b : Int) (t : List UInt8) (hn : 0 <= n /\ n < 6) (ha : zkv (vtW w n) b []) (ht : t.length <= 1024) (hb : 8 <= b) (ho : ownB b = n.toNat) (h9 : In9 b) : Sm (preW w n b t) where
 good := h.good.pre n b t hn ha ht hb ho
 rw9 := h.rw9.pre h.good.vts h.good.trs n b t hn h9
 mail := by
  have := zy8 { w with Votes := w.Votes.set n.toNat { vtW w n with Promised := b }, Tries := w.Tries.set n.toNat ⟨1, b, w.Members, t, [], [], []⟩ } ⟨n, 0, 1, 0, 0, b, 0, [], 0, 0⟩
  have hm := h.good.mem.1
  refine Nat.le_trans this ?_
  show w.Mail.length + w.Members.length <= 1500
  omega
 ch := h.ch
def begS (w : TWorld) (n : Int) : Int × Int := zpd (vtW w n).Promised n
theorem ya5a (w : TWorld) (n : Int) (t : List UInt8) (hn : 0 <= n /\ n < 6) (h : Sm w) (h1 : w.Mail.length <= 1000) (ht : t.length <= 1024) : zdt w n t = some (if (begS w n).2 = 0 then (0, zui w n (begS w n).1 t) else ((begS w n).2, w)) := by
 have hg := h.good
 have hr := h.rw9
 have hv := hg.vts
 have htr := hg.trs
 have hvv := hg.vote n.toNat (by omega)
 have hvr := hr.vote n.toNat (by omega)
 rw [zdt, if_pos (by omega)]
 rw [show zdm (w.Votes.getD n.toNat default).Promised n = some (begS w n) from ya5u _ n hn hvr.1]
 simp only [Option.bind_some]
 by_cases h0 : (begS w n).2 = 0
 obtain ⟨k1, k2, k3, k4, k5⟩ := zwc _ n hn hvr.1 h0
 rw [if_neg (by simpa using h0), if_pos h0]
 change (vtW w n).Promised < (begS w n).1 at k1
 change 8 <= (begS w n).1 at k2
 change BOk (begS w n).1 at k3
 change ownB (begS w n).1 = _ at k4
 change In9 (begS w n).1 at k5
 rw [show w.Votes.getD n.toNat default = vtW w n from rfl, ya4i hvv.1 hvr.1 hvr.2 k3 k5.r]
 simp only [Option.bind_some]
 rw [begR _ _ _ hg.mem k3 k5.r ht, if_neg (by omega : ¬ (begS w n).1 < (vtW w n).Promised)]
 simp only [Option.bind_some]
 rw [if_pos (by omega), if_pos (by omega)]
 have ha : zkv (vtW w n) (begS w n).1 [] := ⟨hvv.1, k3, by simp, by omega⟩
 have hS := h.pre h1 n (begS w n).1 t hn ha ht k2 k4 k5
 have e := ztv { w with Votes := w.Votes.set n.toNat { vtW w n with Promised := (begS w n).1 }, Tries := w.Tries.set n.toNat ⟨1, (begS w n).1, w.Members, t, [], [], []⟩ } ⟨n, 0, 1, 0, 0, (begS w n).1, 0, [], 0, 0⟩ hg.mem.1 (by show w.Mail.length <= 2000; omega)
 rw [e]
 simp only [Option.bind_some]
 have e2 := zw1 (preW w n (begS w n).1 t) n (begS w n).1 ⟨n, (vtW w n).Ballot, (vtW w n).Value⟩ hn hS hvr.2.r
 rw [show zlu { w with Votes := w.Votes.set n.toNat { vtW w n with Promised := (begS w n).1 }, Tries := w.Tries.set n.toNat ⟨1, (begS w n).1, w.Members, t, [], [], []⟩ } ⟨n, 0, 1, 0, 0, (begS w n).1, 0, [], 0, 0⟩ = preW w n (begS w n).1 t from rfl, e2]
 rfl
 rw [if_pos h0, if_neg h0]
theorem ya5b (w : TWorld) (n : Int) (t : List UInt8) (hn : 0 <= n /\ n < 6) (h : Sm w) (h1 : w.Mail.length <= 1000) (h2 : w.Chosen.length <= 1000) (ht : t.length <= 1024) : ∃ r, zep ⟨w⟩ n t = some r /\ ((begS w n).2 = 0 -> r = (0, ⟨zui w n (begS w n).1 t⟩)) /\ ((begS w n).2 ≠ 0 -> r.1 = (begS w n).2) := by
 have hg := h.good
 have hr := h.rw9
 have hv := hg.vts
 have htr := hg.trs
 have hvv := hg.vote n.toNat (by omega)
 have hvr := hr.vote n.toNat (by omega)
 rw [zep, if_pos (by dsimp only; omega)]
 show ∃ r, Option.bind (zex (vtW w n).Promised n) _ = some r /\ _
 rw [show zex (vtW w n).Promised n = some (begS w n) from ya4l _ n hn hvr.1]
 simp only [Option.bind_some]
 by_cases h0 : (begS w n).2 = 0
 obtain ⟨k1, k2, k3, k4, k5⟩ := zwc _ n hn hvr.1 h0
 rw [if_neg (by simpa using h0)]
 change (vtW w n).Promised < (begS w n).1 at k1
 change 8 <= (begS w n).1 at k2
 change BOk (begS w n).1 at k3
 change ownB (begS w n).1 = _ at k4
 change In9 (begS w n).1 at k5
 have ha : zkv (vtW w n) (begS w n).1 [] := ⟨hvv.1, k3, by simp, by omega⟩
 have hS := h.pre h1 n (begS w n).1 t hn ha ht k2 k4 k5
 obtain ⟨r2, hr2, a1, a2⟩ := zrq (vtW w n) (begS w n).1
 show ∃ r, Option.bind (zf0 (vtW w n) (begS w n).1) _ = some r /\ _
 rw [hr2]
 simp only [Option.bind_some]
 have h20 := a1.2 ha
 rw [if_pos (by omega), if_neg (by simpa using h20), a2 h20, begA _ _ _ hg.mem k3 ht]
 simp only [Option.bind_some]
 rw [if_pos (by omega), if_neg (by simp)]
 have e := zy7 { w with Votes := w.Votes.set n.toNat { vtW w n with Promised := (begS w n).1 }, Tries := w.Tries.set n.toNat ⟨1, (begS w n).1, w.Members, t, [], [], []⟩ } ⟨n, 0, 1, 0, 0, (begS w n).1, 0, [], 0, 0⟩ hg.mem.1 (by show w.Mail.length <= 2000; omega)
 rw [e]
 simp only [Option.bind_some]
 have e2 := zw7 (preW w n (begS w n).1 t) n (begS w n).1 ⟨n, (vtW w n).Ballot, (vtW w n).Value⟩ hn ⟨hS.good.mem.1, hS.good.vts, hS.good.trs, hS.mail, h2⟩ (by
  rw [ya25 hg _ _ _ hn]
  simp)
 rw [show zlu { w with Votes := w.Votes.set n.toNat { vtW w n with Promised := (begS w n).1 }, Tries := w.Tries.set n.toNat ⟨1, (begS w n).1, w.Members, t, [], [], []⟩ } ⟨n, 0, 1, 0, 0, (begS w n).1, 0, [], 0, 0⟩ = preW w n (begS w n).1 t from rfl, e2]
 exact ⟨_, rfl, fun _ => rfl, fun h => absurd h0 h⟩
 rw [if_pos h0]
 exact ⟨_, rfl, fun h => absurd h h0, fun _ => rfl⟩
def zkl (w : TWorld) (m : TMove) : List TMail := if m.Kind = 3 then w.Mail else w.Mail.eraseIdx m.At.toNat
noncomputable def doS (w : TWorld) (m : TMove) : Int ⊕ TWorld :=
 if m.Kind = 1 \/ m.Kind = 5 then
  if 0 <= m.Node /\ m.Node < 6 then
   if m.Kind = 5 then .inr { w with Tries := w.Tries.set m.Node.toNat ⟨0, 0, [], [], [], [], []⟩ }
   else if m.Value.length <= 1024 then
    if (begS w m.Node).2 = 0 then .inr (zui w m.Node (begS w m.Node).1 m.Value) else .inl (begS w m.Node).2
   else .inl 3
  else .inl 2
 else if m.Kind = 2 \/ m.Kind = 3 \/ m.Kind = 4 then
  if 0 <= m.At /\ m.At < (w.Mail.length : Int) then
   if m.Kind = 4 then .inr { w with Mail := zkl w m }
   else .inr (zvq { w with Mail := zkl w m } (w.Mail.getD m.At.toNat default))
  else .inl 6
 else .inl 2
def Fits (x : TWorld) : Prop := x.Mail.length <= 1000 /\ x.Chosen.length <= 1000
instance (x : TWorld) : Decidable (Fits x) := by unfold Fits; infer_instance
def ansS : Int ⊕ TWorld -> TWorld × Int
 | .inl e => (⟨[], [], [], [], []⟩, e)
 | .inr x => if Fits x then (x, 0) else (⟨[], [], [], [], []⟩, 9)
theorem zlj (x : TWorld) : (if ((x.Mail.length : Int) > 1000) \/ ((x.Chosen.length : Int) > 1000) then
 some ((⟨[], [], [], [], []⟩ : TWorld), (9 : Int))
 else
 some ((⟨x.Members, x.Votes, x.Tries, x.Mail, x.Chosen⟩ : TWorld), 0)) = some (ansS (.inr x)) := by
 show _ = some (if Fits x then (x, 0) else (⟨[], [], [], [], []⟩, 9))
 by_cases h : ((x.Mail.length : Int) > 1000) \/ ((x.Chosen.length : Int) > 1000)
 rw [if_pos h, if_neg (fun f => by unfold Fits at f; omega)]
 rw [if_neg h, if_pos (show Fits x by unfold Fits; omega)]
theorem ya55 (l : List TMail) (i : Int) (h0 : 0 <= i) (h1 : i < 2000) : l.take i.toNat ++ l.drop (wr .i64 (i + 1)).toNat = l.eraseIdx i.toNat := by
 rw [wr64 _ (by omega), List.eraseIdx_eq_take_drop_succ, show (i + 1).toNat = i.toNat + 1 by omega]
theorem doR (w : TWorld) (m : TMove) (h : Sm w) (h1 : w.Mail.length <= 1000) (h2 : w.Chosen.length <= 1000) : zct w m = some (ansS (doS w m)) := by
 have hg := h.good
 have hr := h.rw9
 have ht := hg.trs
 have err : ∀ e : Int, some ((⟨[], [], [], [], []⟩ : TWorld), e) = some (ansS (.inl e)) := fun e => rfl
 rw [zct, may9 w hg hr h1 h2]
 simp only [Option.bind_some]
 rw [if_neg (by simp)]
 unfold doS
 by_cases k0 : (m.Kind < 1) \/ (m.Kind > 5)
 rw [if_pos k0, if_neg (by omega), if_neg (by omega)]
 exact err 2
 rw [if_neg k0, ya5l w hg h1 h2]
 simp only [Option.bind_some]
 by_cases k1 : m.Kind = 1 \/ m.Kind = 5
 rw [if_pos k1, if_pos k1, ztw]
 simp only [Option.bind_some, decide_eq_true_eq]
 by_cases hn : 0 <= m.Node /\ m.Node < 6
 rw [if_neg (by simpa using hn), if_pos hn]
 by_cases k5 : m.Kind = 5
 rw [if_pos k5, if_pos k5, if_pos (by omega)]
 simp only [Option.bind_some]
 have hF : Fits { w with Tries := w.Tries.set m.Node.toNat (⟨0, 0, [], [], [], [], []⟩ : TAttempt) } := ⟨h1, h2⟩
 show _ = some (if Fits _ then _ else _)
 rw [if_pos hF]
 rw [if_neg k5, if_neg k5]
 by_cases hl : m.Value.length <= 1024
 rw [if_neg (by omega), if_pos hl, ya5a w m.Node m.Value hn h h1 hl]
 simp only [Option.bind_some]
 by_cases h0 : (begS w m.Node).2 = 0
 simp only [if_pos h0]
 rw [if_neg (by simp)]
 exact zlj (zui w m.Node (begS w m.Node).1 m.Value)
 simp only [if_neg h0]
 rw [if_pos h0]
 exact err _
 rw [if_pos (by omega), if_neg hl]
 exact err 3
 rw [if_pos (by simpa using hn), if_neg hn]
 exact err 2
 rw [if_neg k1, if_neg k1, if_pos (show m.Kind = 2 \/ m.Kind = 3 \/ m.Kind = 4 by omega)]
 by_cases ha : 0 <= m.At /\ m.At < (w.Mail.length : Int)
 rw [if_neg (show ¬ ((m.At < 0) \/ (m.At >= (w.Mail.length : Int))) by omega), if_pos ha]
 have hmem : w.Mail.getD m.At.toNat default ∈ w.Mail := by
  have h1 : m.At.toNat < w.Mail.length := by omega
  rw [List.getD_eq_getElem?_getD, List.getElem?_eq_getElem h1]
  exact List.getElem_mem h1
 have hM : (if ¬ (m.Kind = 3) then
 if (0 <= m.At /\ m.At <= (w.Mail.length : Int)) then
 if (0 <= (wr .i64 (m.At + 1)) /\ (wr .i64 (m.At + 1)) <= (w.Mail.length : Int)) then
 if (w.Mail.take m.At.toNat).length + (w.Mail.drop (wr .i64 (m.At + 1)).toNat).length < 1000000 then
 some ((w.Mail.take m.At.toNat) ++ (w.Mail.drop (wr .i64 (m.At + 1)).toNat))
 else none
 else none
 else none
 else
 some w.Mail) = some (zkl w m) := by
    unfold zkl
    by_cases k3 : m.Kind = 3
    rw [if_neg (by simpa using k3), if_pos k3]
    rw [if_pos k3, if_neg k3, if_pos (by omega), if_pos (by rw [wr64 _ (by omega)]; omega), if_pos (by rw [List.length_take, List.length_drop]; omega), ya55 _ _ ha.1 (by omega)]
 rw [hM]
 simp only [Option.bind_some]
 have hMs : ∀ k ∈ zkl w m, k ∈ w.Mail := fun k hk => by
  unfold zkl at hk
  split at hk
  exact hk
  exact List.mem_of_mem_eraseIdx hk
 have hMl : (zkl w m).length <= w.Mail.length := by
  unfold zkl
  split
  exact Nat.le_refl _
  exact List.length_eraseIdx_le ..
 by_cases k4 : m.Kind = 4
 rw [if_neg (by simpa using k4), if_pos k4]
 exact zlj { w with Mail := zkl w m }
 rw [if_pos k4, if_neg k4, if_pos ha]
 have hS : Sm { w with Mail := zkl w m } := ⟨hg.setMail _ fun k hk => .inl (hMs k hk), hr.setMail _ fun k hk => .inl (hMs k hk), by show (zkl w m).length <= 1500; omega, h.ch⟩
 have e := ya12 { w with Mail := zkl w m } (w.Mail.getD m.At.toNat default) (hg.mails _ hmem) hS (hr.mails _ hmem).1 (hr.mails _ hmem).2
 rw [e]
 simp only [Option.bind_some]
 exact zlj (zvq { w with Mail := zkl w m } (w.Mail.getD m.At.toNat default))
 rw [if_pos (show (m.At < 0) \/ (m.At >= (w.Mail.length : Int)) by omega), if_neg ha]
 exact err 6
theorem doD (w : TWorld) (m : TMove) (h : Sm w) (h1 : w.Mail.length <= 1000) (h2 : w.Chosen.length <= 1000) : zgk w m = some (ansS (doS w m)) := by
 have hg := h.good
 have hr := h.rw9
 have ht := hg.trs
 have hok := hg.ok h1 h2
 obtain ⟨e, he, hoe⟩ := zue w hok.proms
 have hs := hok.shape
 have err : ∀ e : Int, some ((⟨[], [], [], [], []⟩ : TWorld), e) = some (ansS (.inl e)) := fun e => rfl
 rw [zgk, he]
 simp only [Option.bind_some]
 rw [if_neg (by simpa using hoe.2 hok), ya10 hok]
 simp only [Option.bind_some]
 have hb1 : (if m.Kind = 1 then some (m.Kind == 1) else some (m.Kind == 5)) = some (decide (m.Kind = 1 \/ m.Kind = 5)) := by
  by_cases h1 : m.Kind = 1 <;> by_cases h5 : m.Kind = 5 <;> simp [h1, h5]
 have hb2 : (if m.Kind = 2 then some (m.Kind == 2) else if m.Kind = 3 then some (m.Kind == 3) else some (m.Kind == 4)) = some (decide (m.Kind = 2 \/ m.Kind = 3 \/ m.Kind = 4)) := by
  by_cases h1 : m.Kind = 2 <;> by_cases h5 : m.Kind = 3 <;> by_cases h6 : m.Kind = 4 <;> simp [h1, h5, h6]
 rw [hb1]
 simp only [Option.bind_some, decide_eq_true_eq]
 unfold doS
 by_cases k1 : m.Kind = 1 \/ m.Kind = 5
 rw [if_pos k1, if_pos k1, zv7]
 simp only [Option.bind_some, decide_eq_true_eq]
 by_cases hn : 0 <= m.Node /\ m.Node < 6
 rw [if_neg (by simpa using hn), if_pos hn]
 by_cases k5 : m.Kind = 5
 rw [if_pos k5, if_pos k5, if_pos (by omega)]
 exact zlj { w with Tries := w.Tries.set m.Node.toNat ⟨0, 0, [], [], [], [], []⟩ }
 rw [if_neg k5, if_neg k5]
 by_cases hl : m.Value.length <= 1024
 rw [if_neg (by omega), if_pos hl]
 obtain ⟨r, hr1, hr2, hr3⟩ := ya5b w m.Node m.Value hn h h1 h2 hl
 rw [hr1]
 simp only [Option.bind_some]
 by_cases h0 : (begS w m.Node).2 = 0
 rw [if_pos h0, hr2 h0, if_neg (by simp)]
 exact zlj (zui w m.Node (begS w m.Node).1 m.Value)
 have he1 := hr3 h0
 rw [if_neg h0, if_pos (by rw [he1]; exact h0), he1]
 exact err _
 rw [if_pos (by omega), if_neg hl]
 exact err 3
 rw [if_pos (by simpa using hn), if_neg hn]
 exact err 2
 rw [if_neg k1, if_neg k1, hb2]
 simp only [Option.bind_some, decide_eq_true_eq]
 by_cases k2 : m.Kind = 2 \/ m.Kind = 3 \/ m.Kind = 4
 rw [if_pos k2, if_pos k2]
 by_cases ha : 0 <= m.At /\ m.At < (w.Mail.length : Int)
 rw [if_neg (show ¬ ((m.At < 0) \/ (m.At >= (w.Mail.length : Int))) by omega)]
 simp only [if_pos ha]
 have hmem : w.Mail.getD m.At.toNat default ∈ w.Mail := by
  have h1 : m.At.toNat < w.Mail.length := by omega
  rw [List.getD_eq_getElem?_getD, List.getElem?_eq_getElem h1]
  exact List.getElem_mem h1
 have hM : (if ¬ (m.Kind = 3) then
 if w.Mail.length < 1000000 then
 some (w.Mail.eraseIdx m.At.toNat)
 else none
 else
 some w.Mail) = some (zkl w m) := by
     unfold zkl
     by_cases k3 : m.Kind = 3
     rw [if_neg (by simpa using k3), if_pos k3]
     rw [if_pos k3, if_neg k3, if_pos (by omega)]
 rw [hM]
 simp only [Option.bind_some]
 have hMl : (zkl w m).length <= w.Mail.length := by
  unfold zkl
  split
  exact Nat.le_refl _
  exact List.length_eraseIdx_le ..
 by_cases k4 : m.Kind = 4
 rw [if_neg (by simpa using k4), if_pos k4]
 exact zlj { w with Mail := zkl w m }
 rw [if_pos k4, if_neg k4]
 have e := ya13 { w with Mail := zkl w m } (w.Mail.getD m.At.toNat default) (hok.mails _ hmem) ⟨hs.mem, hs.vts, hs.trs, Nat.le_trans hMl hs.mail, hs.ch⟩ hok.proms
 rw [e]
 simp only [Option.bind_some]
 exact zlj (zvq { w with Mail := zkl w m } (w.Mail.getD m.At.toNat default))
 rw [if_pos (show (m.At < 0) \/ (m.At >= (w.Mail.length : Int)) by omega), if_neg ha]
 exact err 6
 rw [if_neg k2, if_neg k2]
 exact err 2
theorem zxp (l : List TPromise) : ∀ n acc, ∃ r, zbg l n acc = some r := by
 induction l with
 | nil => intro n acc; exact ⟨_, zg0 n acc⟩
 | cons y l ih =>
  intro n acc
  rw [zek]
  split
  exact ih _ _
  exact ⟨_, rfl⟩
theorem ya0t (a : TAttempt) : ∃ b, ze7 a = some b /\ (b = false -> a.Members.length <= 1000 /\ a.Promises.length <= 1000 /\ a.Accepted.length <= 1000) := by
 obtain ⟨r, hr⟩ := zxp a.Promises 0 (wr .i64 ((a.Wish.length : Int) + (a.Value.length : Int)))
 rw [ze7, hr]
 refine ⟨_, rfl, fun h => ?_⟩
 simp only [Bool.or_eq_false_iff, decide_eq_false_iff_not] at h
 omega
end Go.Proofs
end
section
namespace Go.Proofs
open Go.Tm
set_option linter.unusedSimpArgs false
set_option linter.unusedVariables false
theorem ziw {α : Type} [Inhabited α] [DecidableEq α] (b : List α) (F : List α -> Nat -> Option (Bool ⊕ Unit)) (h0 : ∀ n, F [] n = some (.inr ())) (h1 : ∀ (y : α) (l : List α) (n : Nat), n < b.length -> F (y :: l) n = if y = b.getD n default then F l (n + 1) else some (.inl false)) :
  ∀ (l : List α) (n : Nat), n + l.length = b.length -> F l n = some (if l = b.drop n then .inr () else .inl false)
 | [], n, h => by
  simp only [List.length_nil, Nat.add_zero] at h
  rw [h0, h, List.drop_length, if_pos rfl]
 | y :: l, n, h => by
  simp only [List.length_cons] at h
  have hn : n < b.length := by omega
  have hd := List.drop_eq_getElem_cons hn
  rw [h1 y l n hn, List.getD_eq_getElem?_getD, List.getElem?_eq_getElem hn, hd]
  simp only [Option.getD_some]
  by_cases he : y = b[n]
  rw [if_pos he, ziw b F h0 h1 l (n + 1) (by omega), he]
  simp only [List.cons.injEq, true_and]
  rw [if_neg he, if_neg (fun h => he (List.cons.inj h).1)]
theorem zpa {α : Type} [Inhabited α] [DecidableEq α] {b : List α} {F : List α -> Nat -> Option (Bool ⊕ Unit)} (h : ∀ (l : List α) (n : Nat), n + l.length = b.length -> F l n = some (if l = b.drop n then .inr () else .inl false)) {l : List α} (hl : (l.length : Int) = (b.length : Int)) : F l 0 = some (if l = b then .inr () else .inl false) := by
 rw [h l 0 (by omega), List.drop_zero]
theorem s9v (b : TWorld) : ∀ (l : List TVote) (n : Nat), n + l.length = b.Votes.length -> zbn b l n = some (if l = b.Votes.drop n then .inr () else .inl false) :=
 ziw b.Votes _ (fun n => rfl) fun y l n hn => by
  rw [zbn, if_pos hn]
  generalize b.Votes.getD n default = z
  obtain ⟨y1, y2, y3⟩ := y
  obtain ⟨z1, z2, z3⟩ := z
  simp only [TVote.mk.injEq]
  split <;> rename_i hh
  rfl
  rw [if_pos (Decidable.not_not.1 hh)]
theorem s9t (b : TWorld) : ∀ (l : List TAttempt) (n : Nat), n + l.length = b.Tries.length -> zbm b l n = some (if l = b.Tries.drop n then .inr () else .inl false) :=
 ziw b.Tries _ (fun n => rfl) fun y l n hn => by
  rw [zbm, if_pos hn, ya0a]
  simp only [Option.bind_some, decide_eq_true_eq]
  by_cases he : y = b.Tries.getD n default
  rw [if_neg (fun h => h he), if_pos he]
  rw [if_pos he, if_neg he]
theorem s9m (b : TWorld) : ∀ (l : List TMail) (n : Nat), n + l.length = b.Mail.length -> zbl b l n = some (if l = b.Mail.drop n then .inr () else .inl false) :=
 ziw b.Mail _ (fun n => rfl) fun y l n hn => by
  rw [zbl, if_pos hn]
  generalize b.Mail.getD n default = z
  obtain ⟨y1, y2, y3, y4, y5, y6, y7, y8, y9, y10⟩ := y
  obtain ⟨z1, z2, z3, z4, z5, z6, z7, z8, z9, z10⟩ := z
  simp only [TMail.mk.injEq]
  split <;> rename_i hh
  rfl
  rw [if_pos (Decidable.not_not.1 hh)]
theorem s9c (b : TWorld) : ∀ (l : List TChoice) (n : Nat), n + l.length = b.Chosen.length -> zbk b l n = some (if l = b.Chosen.drop n then .inr () else .inl false) :=
 ziw b.Chosen _ (fun n => rfl) fun y l n hn => by
  rw [zbk, if_pos hn]
  generalize b.Chosen.getD n default = z
  obtain ⟨y1, y2⟩ := y
  obtain ⟨z1, z2⟩ := z
  simp only [TChoice.mk.injEq]
  split <;> rename_i hh
  rfl
  rw [if_pos (Decidable.not_not.1 hh)]
theorem ya0b (a b : TWorld) : zc7 a b = some (decide (a = b)) := by
 have hs : a = b ↔ a.Members = b.Members /\ a.Votes = b.Votes /\ a.Tries = b.Tries /\ a.Mail = b.Mail /\ a.Chosen = b.Chosen := by
  obtain ⟨a1, a2, a3, a4, a5⟩ := a
  obtain ⟨b1, b2, b3, b4, b5⟩ := b
  simp only [TWorld.mk.injEq]
 rw [zc7, zph]
 simp only [Option.bind_some, decide_eq_true_eq]
 by_cases h : ((((¬ (a.Members = b.Members)) \/ (¬ ((a.Votes.length : Int) = (b.Votes.length : Int)))) \/ (¬ ((a.Tries.length : Int) = (b.Tries.length : Int)))) \/ (¬ ((a.Mail.length : Int) = (b.Mail.length : Int)))) \/ (¬ ((a.Chosen.length : Int) = (b.Chosen.length : Int)))
 rw [if_pos h, decide_eq_false]
 rintro rfl
 simp at h
 rw [if_neg h]
 simp only [not_or, Decidable.not_not] at h
 obtain ⟨⟨⟨⟨h1, h2⟩, h3⟩, h4⟩, h5⟩ := h
 rw [zpa (s9v b) h2]
 by_cases e2 : a.Votes = b.Votes
 rw [if_pos e2]
 simp only [Option.bind_some]
 rw [zpa (s9t b) h3]
 by_cases e3 : a.Tries = b.Tries
 rw [if_pos e3]
 simp only [Option.bind_some]
 rw [zpa (s9m b) h4]
 by_cases e4 : a.Mail = b.Mail
 rw [if_pos e4]
 simp only [Option.bind_some]
 rw [zpa (s9c b) h5]
 by_cases e5 : a.Chosen = b.Chosen
 rw [if_pos e5, decide_eq_true (hs.2 ⟨h1, e2, e3, e4, e5⟩)]
 rfl
 rw [if_neg e5, decide_eq_false (fun h => e5 (hs.1 h).2.2.2.2)]
 rfl
 rw [if_neg e4, decide_eq_false (fun h => e4 (hs.1 h).2.2.2.1)]
 rfl
 rw [if_neg e3, decide_eq_false (fun h => e3 (hs.1 h).2.2.1)]
 rfl
 rw [if_neg e2, decide_eq_false (fun h => e2 (hs.1 h).2.1)]
 rfl
theorem eqV (a b : List TVote) : zdn a b = some (decide (a = b)) := by
 rw [zdn]
 by_cases h : (a.length : Int) = (b.length : Int)
 rw [if_neg (by simpa using h), zpa (ziw b (zb2 b) (fun n => rfl) fun y l n hn => by
  rw [zb2, if_pos hn]
  generalize b.getD n default = z
  obtain ⟨y1, y2, y3⟩ := y
  obtain ⟨z1, z2, z3⟩ := z
  simp only [TVote.mk.injEq]
  split <;> rename_i hh
  rfl
  rw [if_pos (Decidable.not_not.1 hh)]) h]
 by_cases he : a = b
 rw [if_pos he]; simp [he]
 rw [if_neg he]; simp [he]
 rw [if_pos (by simpa using h), decide_eq_false]
 rintro rfl
 exact h rfl
theorem eqM (a b : List TMail) : zdo a b = some (decide (a = b)) := by
 rw [zdo]
 by_cases h : (a.length : Int) = (b.length : Int)
 rw [if_neg (by simpa using h), zpa (ziw b (zb3 b) (fun n => rfl) fun y l n hn => by
  rw [zb3, if_pos hn]
  generalize b.getD n default = z
  obtain ⟨y1, y2, y3, y4, y5, y6, y7, y8, y9, y10⟩ := y
  obtain ⟨z1, z2, z3, z4, z5, z6, z7, z8, z9, z10⟩ := z
  simp only [TMail.mk.injEq]
  split <;> rename_i hh
  rfl
  rw [if_pos (Decidable.not_not.1 hh)]) h]
 by_cases he : a = b
 rw [if_pos he]; simp [he]
 rw [if_neg he]; simp [he]
 rw [if_pos (by simpa using h), decide_eq_false]
 rintro rfl
 exact h rfl
theorem eqC (a b : List TChoice) : zcp a b = some (decide (a = b)) := by
 rw [zcp]
 by_cases h : (a.length : Int) = (b.length : Int)
 rw [if_neg (by simpa using h), zpa (ziw b (zap b) (fun n => rfl) fun y l n hn => by
  rw [zap, if_pos hn]
  generalize b.getD n default = z
  obtain ⟨y1, y2⟩ := y
  obtain ⟨z1, z2⟩ := z
  simp only [TChoice.mk.injEq]
  split <;> rename_i hh
  rfl
  rw [if_pos (Decidable.not_not.1 hh)]) h]
 by_cases he : a = b
 rw [if_pos he]; simp [he]
 rw [if_neg he]; simp [he]
 rw [if_pos (by simpa using h), decide_eq_false]
 rintro rfl
 exact h rfl
theorem eqA (a b : List TAttempt) : zaj a b zee = some (decide (a = b)) := by
 rw [zaj]
 by_cases h : (a.length : Int) = (b.length : Int)
 rw [if_neg (by simpa using h), zpa (ziw b (za7 b zee) (fun n => rfl) fun y l n hn => by
  rw [za7, if_pos hn, zyg]
  simp only [Option.bind_some, decide_eq_true_eq]
  by_cases he : y = b.getD n default
  rw [if_neg (fun h => h he), if_pos he]
  rw [if_pos he, if_neg he]) h]
 by_cases he : a = b
 rw [if_pos he]; simp [he]
 rw [if_neg he]; simp [he]
 rw [if_pos (by simpa using h), decide_eq_false]
 rintro rfl
 exact h rfl
theorem ya11 (a b : TWorld) : zhq a b = some (decide (a = b)) := by
 obtain ⟨a1, a2, a3, a4, a5⟩ := a
 obtain ⟨b1, b2, b3, b4, b5⟩ := b
 rw [zhq]
 simp only [zsx, Option.bind_some, decide_eq_true_eq, TWorld.mk.injEq]
 by_cases h1 : a1 = b1 <;> by_cases h2 : a2 = b2 <;> by_cases h3 : a3 = b3 <;> by_cases h4 : a4 = b4 <;> by_cases h5 : a5 = b5 <;> simp [h1, h2, h3, h4, h5, eqV, eqM, eqC, eqA]
end Go.Proofs
end
section
namespace Go.Proofs
open Go.Tm
set_option linter.unusedSimpArgs false
set_option linter.unusedVariables false
structure Sz9 (w : TWorld) : Prop where
 mem : w.Members.length <= 100
 vts : w.Votes.length <= 10
 trs : w.Tries.length <= 10
 mail : w.Mail.length <= 1100
 ch : w.Chosen.length <= 1100
 try_ : ∀ t ∈ w.Tries, t.Members.length <= 1000 /\ t.Promises.length <= 1000 /\ t.Accepted.length <= 1000
theorem gx_1 : ∀ (l : List TMail) (n : Nat) (k : Int), ∃ r, zbf l n k = some r := by
 intro l
 induction l with
 | nil => intro n k; exact ⟨k, rfl⟩
 | cons y l ih =>
  intro n k
  rw [zei]
  split
  exact ih _ _
  exact ⟨k, rfl⟩
theorem gx_2 : ∀ (l : List TChoice) (n : Nat) (k : Int), ∃ r, zbe l n k = some r := by
 intro l
 induction l with
 | nil => intro n k; exact ⟨k, rfl⟩
 | cons y l ih =>
  intro n k
  rw [zeh]
  split
  exact ih _ _
  exact ⟨k, rfl⟩
theorem gx_4 : ∀ (l : List TVote) (n : Nat) (k : Int), ∃ r, zbd l n k = some r := by
 intro l
 induction l with
 | nil => intro n k; exact ⟨k, rfl⟩
 | cons y l ih =>
  intro n k
  rw [zeg]
  split
  exact ih _ _
  exact ⟨k, rfl⟩
theorem gx_3 : ∀ (l : List TAttempt) (n : Nat), ∃ r, zay l n = some r /\ (r = .inl true \/ (r = .inr () /\ (n + l.length <= 20 -> ∀ t ∈ l, t.Members.length <= 1000 /\ t.Promises.length <= 1000 /\ t.Accepted.length <= 1000))) := by
 intro l
 induction l with
 | nil => intro n; exact ⟨_, rfl, .inr ⟨rfl, fun _ t h => by cases h⟩⟩
 | cons y l ih =>
  intro n
  rw [zay]
  by_cases hn : (n : Int) < 20
  obtain ⟨b, hb, hs⟩ := ya0t y
  rw [if_pos hn, hb]
  simp only [Option.bind_some]
  cases b with
  | true => exact ⟨_, rfl, .inl rfl⟩
  | false =>
   obtain ⟨r, hr, h⟩ := ih (n + 1)
   refine ⟨r, by simpa using hr, ?_⟩
   rcases h with h | ⟨h, k⟩
   exact .inl h
   refine .inr ⟨h, fun hl t ht => ?_⟩
   simp only [List.length_cons] at hl
   rcases List.mem_cons.1 ht with rfl | ht
   exact hs rfl
   exact k (by omega) t ht
  rw [if_neg hn]
  exact ⟨_, rfl, .inr ⟨rfl, fun hl => by simp only [List.length_cons] at hl; omega⟩⟩
theorem ya1k (w : TWorld) : ∃ b, zda w = some b /\ (b = false -> Sz9 w) := by
 obtain ⟨r1, h1⟩ := gx_1 w.Mail 0 0
 obtain ⟨r2, h2⟩ := gx_2 w.Chosen 0 r1
 obtain ⟨r3, h3, k3⟩ := gx_3 w.Tries 0
 obtain ⟨r4, h4⟩ := gx_4 w.Votes 0 r2
 rw [zda, h1]
 simp only [Option.bind_some]
 rw [h2]
 simp only [Option.bind_some]
 rw [h3]
 rcases k3 with rfl | ⟨rfl, k3⟩
 exact ⟨true, rfl, fun h => by cases h⟩
 simp only [Option.bind_some]
 rw [h4]
 refine ⟨_, rfl, fun h => ?_⟩
 simp only [Bool.or_eq_false_iff, decide_eq_false_iff_not] at h
 exact ⟨by omega, by omega, by omega, by omega, by omega, k3 (by omega)⟩
theorem zmk {α : Type} [Inhabited α] {l : List α} {n : Nat} (h : n < l.length) : l.getD n default ∈ l := by
 rw [List.getD_eq_getElem?_getD, List.getElem?_eq_getElem h]
 exact List.getElem_mem h
theorem zvo (l : List TAttempt) (hl : l.length <= 10) (hv : ∀ t ∈ l, t.Members.length <= 1000 /\ t.Promises.length <= 1000 /\ t.Accepted.length <= 1000) : ∀ (k n fu : Nat), n + k = l.length -> k < fu -> zbp l fu l (n : Int) = some l := by
 intro k
 induction k with
 | zero =>
  intro n fu hn hf
  obtain ⟨f, rfl⟩ : ∃ f, fu = f + 1 := ⟨fu - 1, by omega⟩
  rw [zbp, if_neg (by omega), if_pos (by omega)]
 | succ k ih =>
  intro n fu hn hf
  obtain ⟨f, rfl⟩ : ∃ f, fu = f + 1 := ⟨fu - 1, by omega⟩
  have h1 := hv _ (zmk (l := l) (n := n) (by omega))
  rw [zbp, if_pos (by omega), if_pos (by omega), Int.toNat_natCast, zs5 _ (by omega) (by omega) (by omega)]
  simp only [Option.bind_some]
  rw [if_pos (by omega), if_pos (by omega), zs8, wr64 _ (by omega), show (n : Int) + 1 = ((n + 1 : Nat) : Int) from rfl]
  exact ih (n + 1) f (by omega) (by omega)
theorem ya52 {w : TWorld} (h : Sz9 w) : zew w = some w := by
 have h1 := h.mem
 have h2 := h.vts
 have h3 := h.trs
 have h4 := h.mail
 have h5 := h.ch
 rw [zew, zaw, zdp, zdq, zcq, zca]
 rw [if_pos (by omega), if_pos (by omega), if_pos (by omega), if_pos (by omega), if_pos (by omega)]
 simp only [Option.bind_some]
 have := zvo w.Tries h3 h.try_ w.Tries.length 0 (w.Tries.length + 1) (by omega) (by omega)
 rw [show ((0 : Nat) : Int) = 0 from rfl] at this
 rw [this]
 rfl
theorem zuo (w : TWorld) (h : Sz9 w) : ∀ (k n fu : Nat) (l : List TAttempt), n + k = w.Tries.length -> k < fu -> l.length = n -> zah w fu l (n : Int) = some (l ++ w.Tries.drop n) := by
 have ht := h.trs
 intro k
 induction k with
 | zero =>
  intro n fu l hn hf hl
  obtain ⟨f, rfl⟩ : ∃ f, fu = f + 1 := ⟨fu - 1, by omega⟩
  rw [zah, if_neg (by omega), List.drop_eq_nil_of_le (by omega), List.append_nil]
 | succ k ih =>
  intro n fu l hn hf hl
  obtain ⟨f, rfl⟩ : ∃ f, fu = f + 1 := ⟨fu - 1, by omega⟩
  have hlt : n < w.Tries.length := by omega
  have h1 := h.try_ _ (zmk (l := w.Tries) (n := n) hlt)
  rw [zah, if_pos (by omega), if_pos (by omega), Int.toNat_natCast, zpg _ (by omega) (by omega) (by omega)]
  simp only [Option.bind_some]
  rw [if_pos (by simp; omega), wr64 _ (by omega), show (n : Int) + 1 = ((n + 1 : Nat) : Int) from rfl, ih (n + 1) f _ (by omega) (by omega) (by simp; omega)]
  rw [List.append_assoc, List.drop_eq_getElem_cons hlt, List.getD_eq_getElem?_getD, List.getElem?_eq_getElem hlt]
  rfl
theorem ya4d {w : TWorld} (h : Sz9 w) : zb1 w = some w := by
 have h1 := h.mem
 have h2 := h.vts
 have h3 := h.trs
 have h4 := h.mail
 have h5 := h.ch
 rw [zb1, if_pos (by omega), if_pos (by omega), if_pos (by omega), if_pos (by omega)]
 have := zuo w h w.Tries.length 0 (w.Tries.length + 1) [] (by omega) (by omega) rfl
 rw [show ((0 : Nat) : Int) = 0 from rfl] at this
 rw [this]
 rfl
structure Rg9 (w : TWorld) : Prop where
 vts : ∀ v ∈ w.Votes, R64 v.Promised /\ R64 v.Ballot
 trs : ∀ t ∈ w.Tries, R64 t.Ballot /\ 0 <= t.Phase /\ ∀ p ∈ t.Promises, R64 p.Ballot
 mail : ∀ m ∈ w.Mail, R64 m.Ballot /\ R64 m.Prior
theorem ya5v (v : TVote) (h1 : R64 v.Promised) (h2 : R64 v.Ballot) : zch v = some (decide (VOk v)) := by
 rw [zch, zjl _ h1, zjl _ h2]
 unfold VOk
 by_cases e1 : v.Promised = 0 <;> by_cases e2 : v.Ballot = 0 <;> by_cases e3 : BOk v.Promised <;> by_cases e4 : BOk v.Ballot <;> simp_all
 all_goals first | (by_cases h : v.Value = [] <;> simp [h]; done) | (by_cases h : v.Ballot <= v.Promised <;> by_cases h' : v.Value.length <= 1024 <;> simp [h, h'] <;> omega) | skip
theorem ya0p (m : TMail) (h1 : R64 m.Ballot) : zbz m = some (decide (MOk m)) := by
 have hs : (decide (MOk m)) = (decide (m.Group = 0 /\ m.Slot = 0 /\ m.Id = 0 /\ m.Time = 0) && decide (0 <= m.From /\ m.From < 6) && decide (0 <= m.To /\ m.To < 6) && decide (m.Kind >= 1) && decide (m.Kind <= 5) && decide (BOk m.Ballot) && decide (m.Prior >= 0) && decide ((m.Value.length : Int) <= 1024)) := by
  rw [Bool.eq_iff_iff]
  simp only [Bool.and_eq_true, decide_eq_true_eq]
  unfold MOk
  constructor
  rintro ⟨a1, a2, a3, a4, a5, a6, a7, a8, a9, a10, a11⟩
  exact ⟨⟨⟨⟨⟨⟨⟨⟨a8, a9, a10, a11⟩, a1⟩, a2⟩, a3⟩, a4⟩, a5⟩, a6⟩, by omega⟩
  rintro ⟨⟨⟨⟨⟨⟨⟨⟨a8, a9, a10, a11⟩, a1⟩, a2⟩, a3⟩, a4⟩, a5⟩, a6⟩, a7⟩
  exact ⟨a1, a2, a3, a4, a5, a6, by omega, a8, a9, a10, a11⟩
 rw [hs, zbz, ztw, ztw, zjl _ h1]
 by_cases k1 : m.Group = 0 <;> by_cases k2 : m.Slot = 0 <;> by_cases k3 : m.Id = 0 <;> by_cases k4 : m.Time = 0 <;> by_cases k5 : (0 <= m.From /\ m.From < 6) <;> by_cases k6 : (0 <= m.To /\ m.To < 6) <;> by_cases k7 : m.Kind >= 1 <;> by_cases k8 : m.Kind <= 5 <;> simp [k1, k2, k3, k4, k5, k6, k7, k8]
theorem mx3 : ∀ l : List TChoice, zb8 l = some (if (∀ c ∈ l, (0 <= c.Node /\ c.Node < 6) /\ c.Value.length <= 1024) then .inr () else .inl false)
 | [] => by rw [zes, if_pos (fun c h => by cases h)]
 | y :: l => by
  rw [zet, ztw]
  simp only [Option.bind_some, decide_eq_true_eq]
  by_cases h : (0 <= y.Node /\ y.Node < 6) /\ y.Value.length <= 1024
  rw [if_neg (by omega), mx3 l]
  simp only [List.forall_mem_cons, h, true_and]
  rw [if_pos (by omega), if_neg (fun k => h (k y (List.mem_cons_self ..)))]
theorem mx2 : ∀ l : List TMail, (∀ m ∈ l, R64 m.Ballot) -> zal l = some (if (∀ m ∈ l, MOk m) then .inr () else .inl false)
 | [], _ => by rw [zal, if_pos (fun c h => by cases h)]
 | y :: l, hr => by
  rw [zal, ya0p y (hr y (List.mem_cons_self ..))]
  simp only [Option.bind_some, decide_eq_true_eq]
  by_cases h : MOk y
  rw [if_neg (fun k => k h), mx2 l (fun m hm => hr m (List.mem_cons_of_mem _ hm))]
  simp only [List.forall_mem_cons, h, true_and]
  rw [if_pos h, if_neg (fun k => h (k y (List.mem_cons_self ..)))]
theorem zvy {b : Int} (h : BOk b) (hr : R64 b) (i : Nat) : b.tmod 8 = (i : Int) ↔ ownB b = i := by
 have := h.in9 hr
 have e : b.tmod 8 = b % 8 := Int.tmod_eq_emod_of_nonneg this.1
 unfold ownB
 rw [e]
 have := this.1
 omega
open Classical in
theorem mx1 (w : TWorld) (hv : w.Votes.length = 6) (ht : w.Tries.length = 6) (hs : Sz9 w) (hr : Rg9 w) : ∀ (k n fu : Nat), n + k = 6 -> k < fu -> zad w fu (n : Int) = some (if (∀ i, n <= i -> i < 6 -> TOk w i) then .inr () else .inl false) := by
 intro k
 induction k with
 | zero =>
  intro n fu hn hf
  obtain ⟨f, rfl⟩ : ∃ f, fu = f + 1 := ⟨fu - 1, by omega⟩
  rw [zad, if_neg (by omega), if_pos (fun i h1 h2 => by omega)]
 | succ k ih =>
  intro n fu hn hf
  obtain ⟨f, rfl⟩ : ∃ f, fu = f + 1 := ⟨fu - 1, by omega⟩
  have hvm := zmk (l := w.Votes) (n := n) (by omega)
  have htm := zmk (l := w.Tries) (n := n) (by omega)
  have hr1 := hr.vts _ hvm
  have hr2 := hr.trs _ htm
  have hs2 := hs.try_ _ htm
  have hra : Ranged (w.Tries.getD n default) := ⟨hr2.2.1, hr2.1, hr2.2.2, by omega, by omega, by omega⟩
  obtain ⟨b, hb, hbi⟩ := zso _ hra
  have all : (∀ i, n <= i -> i < 6 -> TOk w i) ↔ TOk w n /\ ∀ i, n + 1 <= i -> i < 6 -> TOk w i := by
   constructor
   intro h; exact ⟨h n (Nat.le_refl _) (by omega), fun i h1 h2 => h i (by omega) h2⟩
   rintro ⟨h1, h2⟩ i h3 h4
   rcases Nat.eq_or_lt_of_le h3 with rfl | h5
   exact h1
   exact h2 i h5 h4
  rw [zad, if_pos (by omega), if_pos (by omega), if_pos (by omega), Int.toNat_natCast, ya5v _ hr1.1 hr1.2]
  simp only [Option.bind_some, decide_eq_true_eq]
  have fin : ∀ (q : Option (Bool ⊕ Unit)), (TOk w n -> q = zad w f (wr .i64 ((n : Int) + 1))) -> (¬ TOk w n -> q = some (.inl false)) -> q = some (if (∀ i, n <= i -> i < 6 -> TOk w i) then .inr () else .inl false) := by
   intro q q1 q2
   by_cases h : TOk w n
   rw [q1 h, wr64 _ (by omega), show (n : Int) + 1 = ((n + 1 : Nat) : Int) from rfl, ih (n + 1) f (by omega) (by omega)]
   simp only [all, h, true_and]
   rw [q2 h, if_neg (fun k => h (all.1 k).1)]
  refine fin _ (fun hT => ?_) (fun hT => ?_)
  obtain ⟨t1, t2, t3⟩ := hT
  have hb1 := hbi.2 t2
  rw [if_pos (fun h => h t1), hb]
  simp only [Option.bind_some, hb1]
  by_cases h0 : (w.Tries.getD n default).Phase = 0
  rw [if_neg (fun h => h.1.2 h0)]
  simp only [Option.bind_some]
  rw [if_neg]
  rintro ((h | h) | h)
  exact h t1
  exact h (by trivial)
  exact h.1 h0
  obtain ⟨u1, u2⟩ := t3 h0
  have hbk := (t2.kept h0).ballot
  have hm8 := (zvy hbk hr2.1 n).2 u1
  rw [if_pos ⟨⟨by rintro (h | h); exact h t1; exact h (by trivial), h0⟩, fun h => h hm8⟩, zph]
  simp only [Option.bind_some, decide_eq_true_eq]
  rw [if_neg]
  rintro ((h | h) | h)
  exact h t1
  exact h (by trivial)
  rcases h.2 with h | h
  exact h hm8
  exact h u2
  by_cases t1 : VOk (w.Votes.getD n default)
  rw [if_pos (fun h => h t1), hb]
  simp only [Option.bind_some]
  by_cases t2 : zfj (w.Tries.getD n default)
  have hb1 := hbi.2 t2
  subst hb1
  by_cases h0 : (w.Tries.getD n default).Phase = 0
  exact absurd ⟨t1, t2, fun h => absurd h0 h⟩ hT
  have hbk := (t2.kept h0).ballot
  by_cases u1 : (w.Tries.getD n default).Ballot.tmod 8 = (n : Int)
  rw [if_pos ⟨⟨by rintro (h | h); exact h t1; exact h (by trivial), h0⟩, fun h => h u1⟩, zph]
  simp only [Option.bind_some, decide_eq_true_eq]
  rw [if_pos (.inr ⟨h0, .inr fun h => hT ⟨t1, t2, fun _ => ⟨(zvy hbk hr2.1 n).1 u1, h⟩⟩⟩)]
  rw [if_neg (fun h => h.2 u1)]
  simp only [Option.bind_some]
  rw [if_pos (.inr ⟨h0, .inl u1⟩)]
  have hb0 : ¬ b = true := fun h => t2 (hbi.1 h)
  rw [if_neg (fun h => h.1.1 (.inr hb0))]
  simp only [Option.bind_some]
  rw [if_pos (.inl (.inr hb0))]
  rw [if_neg (fun h => h t1)]
  simp only [Option.bind_some]
  rw [if_neg (fun h => h.1.1 (.inl t1))]
  simp only [Option.bind_some]
  rw [if_pos (.inl (.inl t1))]
open Classical in
theorem mayx (w : TWorld) (hs : Sz9 w) (hr : Rg9 w) : ∃ b, zcg w = some b /\ (b = true ↔ WOk w) := by
 rw [zcg, ya0f]
 simp only [Option.bind_some, decide_eq_true_eq]
 by_cases h : ((((¬ QOk w.Members) \/ (¬ ((w.Votes.length : Int) = 6))) \/ (¬ ((w.Tries.length : Int) = 6))) \/ ((w.Mail.length : Int) > 1000)) \/ ((w.Chosen.length : Int) > 1000)
 ·rw [if_pos h]
  refine ⟨false, rfl, (by intro h; cases h), fun k => ?_⟩
  exfalso
  have k1 := k.vts; have k2 := k.trs; have k3 := k.mail; have k4 := k.ch
  rcases h with (((h | h) | h) | h) | h
  exact h k.mem
  all_goals omega
 rw [if_neg h]
 simp only [not_or, Decidable.not_not] at h
 obtain ⟨⟨⟨⟨h1, h2⟩, h3⟩, h4⟩, h5⟩ := h
 have l1 := mx1 w (by omega) (by omega) hs hr 6 0 7 rfl (by omega)
 have l1 : zad w 7 0 = _ := l1
 rw [l1]
 by_cases c1 : ∀ i, 0 <= i -> i < 6 -> TOk w i
 rw [if_pos c1]
 simp only [Option.bind_some]
 rw [mx2 w.Mail (fun m hm => (hr.mail m hm).1)]
 by_cases c2 : ∀ m ∈ w.Mail, MOk m
 rw [if_pos c2]
 simp only [Option.bind_some]
 rw [mx3]
 by_cases c3 : ∀ c ∈ w.Chosen, (0 <= c.Node /\ c.Node < 6) /\ c.Value.length <= 1024
 rw [if_pos c3]
 exact ⟨true, rfl, fun _ => ⟨h1, by omega, by omega, by omega, by omega, fun i hi => (c1 i (Nat.zero_le _) hi).1, fun i hi => (c1 i (Nat.zero_le _) hi).2, c2, c3⟩, fun _ => rfl⟩
 rw [if_neg c3]
 exact ⟨false, rfl, (by intro h; cases h), fun k => absurd k.chs c3⟩
 rw [if_neg c2]
 exact ⟨false, rfl, (by intro h; cases h), fun k => absurd k.mails c2⟩
 rw [if_neg c1]
 exact ⟨false, rfl, (by intro h; cases h), fun k => absurd (fun i _ hi => ⟨k.vote i hi, k.try_ i hi⟩) c1⟩
theorem ya1m (w : TWorld) (hs : Sz9 w) : ∃ e, zf1 w = some e /\ (e = 0 ↔ WOk w) /\ (e = 0 \/ e = 8) := by
 obtain ⟨e, he, hi⟩ := zue w (fun t ht => by have := hs.try_ t ht; omega)
 refine ⟨e, he, hi, ?_⟩
 rw [zf1] at he
 obtain ⟨v1, _, he⟩ := bind_some he
 split at he
 exact .inr (sj he).symm
 obtain ⟨b1, _, he⟩ := bind_some he
 obtain ⟨b2, _, he⟩ := bind_some he
 obtain ⟨b3, _, he⟩ := bind_some he
 split at he
 exact .inr (sj he).symm
 exact .inl (sj he).symm
theorem ya5n {w : TWorld} (h : WOk w) (hr : Rg9 w) : Sm w := by
 have h1 := h.vts; have h2 := h.trs; have h3 := h.mail; have h4 := h.ch
 have hv : ∀ i : Nat, i < 6 -> In9 (w.Votes.getD i default).Promised /\ In9 (w.Votes.getD i default).Ballot := by
  intro i hi
  have hr1 := hr.vts _ (zmk (l := w.Votes) (n := i) (by omega))
  have hk := h.vote i hi
  unfold VOk at hk
  refine ⟨?_, ?_⟩
  rcases hk.1 with k | k
  rw [k]; exact zxo
  exact k.in9 hr1.1
  by_cases k0 : (w.Votes.getD i default).Ballot = 0
  rw [k0]; exact zxo
  have := hk.2
  rw [if_neg k0] at this
  exact this.1.in9 hr1.2
 refine ⟨⟨h.mem, h1, h2, fun i hi => ⟨h.vote i hi, (hv i hi).1.1, (hv i hi).2.1⟩, h.try_, h.mails, h.chs⟩, ⟨hv, fun i hi => ?_, fun m hm => ⟨(h.mails m hm).2.2.2.2.1.in9 (hr.mail m hm).1, (hr.mail m hm).2⟩⟩, by omega, by omega⟩
 have hr2 := hr.trs _ (zmk (l := w.Tries) (n := i) (by omega))
 have hk := (h.try_ i hi).1
 by_cases h0 : (w.Tries.getD i default).Phase = 0
 unfold zfj at hk
 rw [if_pos h0] at hk
 rw [hk]
 exact ⟨zxo, fun p hp => by cases hp⟩
 have hkk := hk.kept h0
 exact ⟨hkk.ballot.in9 hr2.1, fun p hp => (hkk.may p hp).in9 (hr2.2.2 p hp)⟩
theorem dox (w : TWorld) (m : TMove) (hs : Sz9 w) (hr : Rg9 w) : ∃ r, zgk w m = some r /\ zct w m = some r := by
 by_cases h : WOk w
 have hS := ya5n h hr
 exact ⟨_, doD w m hS h.mail h.ch, doR w m hS h.mail h.ch⟩
 obtain ⟨e, he, hi, h8⟩ := ya1m w hs
 obtain ⟨b, hb, hbi⟩ := mayx w hs hr
 have e8 : e = 8 := h8.resolve_left fun k => h (hi.1 k)
 have b0 : b = false := by cases b with | true => exact absurd (hbi.1 rfl) h | false => rfl
 subst e8 b0
 refine ⟨(⟨[], [], [], [], []⟩, 8), ?_, ?_⟩
 rw [zgk, he]; rfl
 rw [zct, hb]; rfl
theorem zr1 (a0 a1 : TWorld) (a2 : TMove) (hr : Rg9 a0) : zco a0 a1 a2 = some true := by
 obtain ⟨g0, hg0, hs0⟩ := ya1k a0
 obtain ⟨g1, hg1, _⟩ := ya1k a1
 rw [zco, hg0, hg1]
 simp only [Option.bind_some]
 cases g0 with
 | true => simp
 | false =>
 cases g1 with
 | true => simp
 | false =>
 simp only [Bool.false_eq_true, not_false_eq_true, if_true, Option.bind_some, false_or]
 by_cases hbig : (a2.Value.length : Int) > 5000
 rw [if_pos hbig]
 rw [if_neg hbig]
 have hs := hs0 rfl
 obtain ⟨r, hr1, hr2⟩ := dox a0 a2 hs hr
 obtain ⟨e, he, hi, _⟩ := ya1m a0 hs
 obtain ⟨b, hb, hbi⟩ := mayx a0 hs hr
 have heb : (e == 0) = b := by rw [Bool.eq_iff_iff, hbi, <- hi]; simp
 rw [ya4d hs]
 simp only [Option.bind_some]
 rw [hr1, hr2, ya52 hs]
 simp only [Option.bind_some, ya0b, he, hb, ya11]
 subst heb
 simp
theorem zrk {n : Int} (h : Tm.wf (.int .i64 n)) : R64 n := by
 simpa [Tm.wf, R64, IntKind.min, IntKind.max, IntKind.signed, IntKind.bits] using h
theorem ya5j {n : Int} (h : Tm.wf (.int .u8 n)) : 0 <= n := by
 have h1 := h.1
 simpa [IntKind.min, IntKind.signed] using h1
theorem zvw {s : Nat} {l : List D} (h : Tm.wf (.imm s l 4)) : ∀ d ∈ l, Tm.wf d := (zxz l).1 (h.2 (by decide))
theorem ya4e (w : TWorld) (h : Tm.wf w.d) : Rg9 w := by
 have h : wfL [.imm 1 (w.Members.map (D.int .i64)) 4, .imm 3 (w.Votes.map TVote.d) 4, .imm 7 (w.Tries.map TAttempt.d) 4, .imm 10 (w.Mail.map TMail.d) 4, .imm 2 (w.Chosen.map TChoice.d) 4] := h
 obtain ⟨_, hv, ht, hm, _⟩ := h
 refine ⟨fun v k => ?_, fun t k => ?_, fun m k => ?_⟩
 have q := zvw hv _ (List.mem_map.2 ⟨v, k, rfl⟩)
 have q : wfL [.int .i64 v.Promised, .int .i64 v.Ballot, .str v.Value] := q
 exact ⟨zrk q.1, zrk q.2.1⟩
 have q := zvw ht _ (List.mem_map.2 ⟨t, k, rfl⟩)
 have q : wfL [.int .u8 t.Phase, .int .i64 t.Ballot, .imm 1 (t.Members.map (D.int .i64)) 4, .str t.Wish, .str t.Value, .imm 3 (t.Promises.map TPromise.d) 4, .imm 1 (t.Accepted.map (D.int .i64)) 4] := q
 refine ⟨zrk q.2.1, ya5j q.1, fun p kp => ?_⟩
 have r := zvw q.2.2.2.2.2.1 _ (List.mem_map.2 ⟨p, kp, rfl⟩)
 have r : wfL [.int .i64 p.Node, .int .i64 p.Ballot, .str p.Value] := r
 exact zrk r.2.1
 have q := zvw hm _ (List.mem_map.2 ⟨m, k, rfl⟩)
 have q : wfL [.int .i64 m.From, .int .i64 m.To, .int .u8 m.Kind, .int .i64 m.Group, .int .i64 m.Slot, .int .i64 m.Ballot, .int .i64 m.Prior, .str m.Value, .int .i64 m.Id, .int .i64 m.Time] := q
 exact ⟨zrk q.2.2.2.2.2.1, zrk q.2.2.2.2.2.2.1⟩
theorem zpf (a0 a1 : TWorld) (a2 : TMove) (hw : wfL [a0.d, a1.d, a2.d]) : zco a0 a1 a2 = some true := zr1 a0 a1 a2 (ya4e a0 hw.1)
end Go.Proofs
end
section
namespace Go.Tm
open Go.RowKit Go.WideShapes Go.ChangeShapes
def aggT (P : Program) (t : TypeId) : Bool := match P.underlying t with
 | some (.struct _) => true
 | _ => false
def mkD (P : Program) (t : TypeId) (l : List D) : D := bif aggT P t then .agg l else l.headD .undef
def zld (P : Program) (chk : TypeId -> Bool) : Nat -> List Field -> Nat -> Bool
 | off, [], tot => Nat.beq off tot
 | off, f :: fs, tot => Nat.beq f.offset off && chk f.type && zld P chk (off + P.cellsOf f.type) fs tot
def zr2 (P : Program) : Nat -> TypeId -> Bool
 | 0, _ => false
 | n + 1, t => match P.underlying t with
  | some .bool => true
  | some (.int _) => true
  | some .string => true
  | some (.slice e) => zr2 P n e && Nat.blt 0 (P.cellsOf e) && (aggT P e || Nat.beq (P.cellsOf e) 1)
  | some (.struct fs) => zld P (zr2 P n) 0 fs.toList (P.cellsOf t)
  | _ => false
def zps (p : TypeId -> List D -> Prop) : List TypeId -> List D -> Prop
 | [], l => l = []
 | t :: ts, l => ∃ l1 l2, l = l1 ++ l2 /\ p t l1 /\ zps p ts l2
def zg2 (P : Program) : Nat -> TypeId -> List D -> Prop
 | 0, _, _ => False
 | n + 1, t, l => match P.underlying t with
  | some .bool => ∃ b, l = [.bool b]
  | some (.int k) => ∃ m, l = [.int k m]
  | some .string => ∃ s, l = [.str s]
  | some (.slice e) => ∃ xs : List (List D), l = [.imm (P.cellsOf e) (xs.map (mkD P e)) 4] /\ ∀ x ∈ xs, zg2 P n e x
  | some (.struct fs) => zps (zg2 P n) (fs.toList.map (·.type)) l
  | _ => False
theorem zp5 {C : Cx} : ∀ {l1 l2 : List D} {v1 v2 : List Value}, reps C l1 v1 -> reps C l2 v2 -> reps C (l1 ++ l2) (v1 ++ v2)
 | [], l2, v1, v2, h1, h2 => by simp only [reps] at h1; subst h1; simpa using h2
 | d :: ds, l2, v1, v2, h1, h2 => by
  simp only [reps] at h1
  obtain ⟨v, vs, rfl, hd, h1⟩ := h1
  simp only [List.cons_append, reps]
  exact ⟨v, vs ++ v2, rfl, hd, zp5 h1 h2⟩
theorem zwq {C : Cx} {b s : Nat} {p : List D -> Prop} {f : List D -> D} : ∀ (n o : Nat), (∀ i, i < n -> ∃ l v, p l /\ rep C (f l) v /\ v.cells.size = s /\ v.cells.toList.all (·.oneCell') = true /\ C.w.rangeAt b (o + i * s) v.cells.toList) ->
  ∃ xs : List (List D), xs.length = n /\ elems C (xs.map f) b o s /\ ∀ x ∈ xs, p x
 | 0, o, _ => ⟨[], rfl, by simp only [List.map_nil, elems], by simp⟩
 | n + 1, o, h => by
  obtain ⟨l, v, h1, h2, h3, h4, h5⟩ := h 0 (by omega)
  obtain ⟨xs, g1, g2, g3⟩ := zwq n (o + s) (fun i hi => by
   obtain ⟨l, v, h1, h2, h3, h4, h5⟩ := h (i + 1) (by omega)
   exact ⟨l, v, h1, h2, h3, h4, by rwa [show o + (i + 1) * s = o + s + i * s by rw [Nat.add_mul]; omega] at h5⟩)
  refine ⟨l :: xs, by simp [g1], ?_, by simpa using ⟨h1, g3⟩⟩
  simp only [List.map_cons, elems]
  exact ⟨⟨v, h2, h3, h4, by simpa using h5⟩, g2⟩
theorem zqt {P : Program} {chk : TypeId -> Bool} : ∀ (fs : List Field) (off tot : Nat), zld P chk off fs tot = true -> off <= tot
 | [], off, tot, h => Nat.le_of_eq (nb h)
 | f :: fs, off, tot, h => by
  simp only [zld, Bool.and_eq_true] at h
  have := zqt fs _ _ h.2
  omega
section
variable {H : Type} {enc : TypeId × Value -> H} {P : Program} {w : World} {sp : Nat -> Bool}
theorem zpt : ∀ (n fuel : Nat) (t : TypeId) (cs : List Value) (x : DataW H × List MemPlace) (C : Cx), C.w = w -> (∀ b, ¬ C.M b) -> (∀ b, C.Z b) -> zr2 P n t = true -> DataW.trod enc P w 0 sp true fuel t cs = some x ->
  ∃ l, reps C l cs /\ zg2 P n t l /\ cs.all (·.oneCell') = true
 | 0, _, _, _, _, _, _, _, _, h, _ => by simp [zr2] at h
 | n + 1, fuel, t, cs, x, C, hw, hM, hlo, hd, h => by
  unfold zr2 at hd
  split at hd
  rename_i ht
  simp only [zg2, ht]
  obtain ⟨b, rfl, _⟩ := DataW.trod_bool ht h
  exact ⟨[.bool b], by simp only [reps, rep]; exact ⟨_, _, rfl, rfl, rfl⟩, ⟨b, rfl⟩, rfl⟩
  rename_i k ht
  simp only [zg2, ht]
  obtain ⟨m, rfl, _, hwf⟩ := DataW.trod_int ht h
  simp only [Lit.wf, Bool.and_eq_true, decide_eq_true_eq] at hwf
  exact ⟨[.int k m], by simp only [reps, rep]; exact ⟨_, _, rfl, ⟨rfl, hwf⟩, rfl⟩, ⟨m, rfl⟩, rfl⟩
  rename_i ht
  simp only [zg2, ht]
  obtain ⟨s, rfl, _, hs⟩ := DataW.trod_string ht h
  refine ⟨[.str s.data.toList], ?_, ⟨_, rfl⟩, rfl⟩
  simp only [reps, rep]
  refine ⟨_, _, rfl, ⟨by rw [Array.toArray_toList], ?_⟩, rfl⟩
  have h1 : s.data.toList.length = s.size := by rw [Array.length_toList]; rfl
  have h2 : s.size <= 9223372036854775807 := hs
  rw [h1]; omega
  ·rename_i e ht
   simp only [zg2, ht]
   simp only [Bool.and_eq_true, Bool.or_eq_true] at hd
   obtain ⟨⟨hde, hpos⟩, hone⟩ := hd
   have hpos : 0 < P.cellsOf e := lb hpos
   rcases DataW.trod_slice ht h with ⟨rfl, _⟩ | ⟨a, len, cap, els, rest, m, _, rfl, _, hb, hl, hc, hlen, hel, _⟩
   refine ⟨[.imm (P.cellsOf e) (([] : List (List D)).map (mkD P e)) 4], ?_, ⟨[], rfl, fun _ h => by cases h⟩, rfl⟩
   simp only [reps, rep, List.map_nil, List.length_nil]
   exact ⟨_, _, rfl, ⟨none, 0, rfl, by simp, by simp, by simp, by simp, by simp, by simp, by simp, .inl trivial⟩, rfl⟩
   ·have hc : cap <= 9223372036854775807 := hc
    have key : ∀ i, i < len -> ∃ l v, zg2 P n e l /\ rep (C.at C.Z) (mkD P e l) v /\ v.cells.size = P.cellsOf e /\ v.cells.toList.all (·.oneCell') = true /\ (i = 0 -> a.spot = none) /\ a.block < w.heap.size /\ w.rangeAt a.block (a.off + i * P.cellsOf e) v.cells.toList := by
     intro i hi
     have hi' := hel i hi
     have hsome : els[i]? = some els[i] := List.getElem?_eq_getElem (by omega)
     rw [hsome, Option.bind_eq_some_iff] at hi'
     obtain ⟨cs', hcs, htr⟩ := hi'
     obtain ⟨_, hclen, hcell⟩ := World.cells?_some hcs
     obtain ⟨l, g1, g2, g3⟩ := zpt n m e cs' _ (C.at C.Z) (by simpa [Cx.at] using hw) (by simpa [Cx.at] using hM) (by simpa [Cx.at] using hlo) hde htr
     have h0 := hcell 0 hpos
     have hc0 : cs'[0]? = some cs'[0] := List.getElem?_eq_getElem (by omega)
     rw [hc0] at h0
     have hadd : ∀ j, ((a.add (i * P.cellsOf e)).add j).block = a.block := by intro j; unfold Addr.add; split <;> split <;> rfl
     have hblk : a.block < w.heap.size /\ ((a.add (i * P.cellsOf e)).add 0).spot = none := by
      unfold World.cell? at h0
      rw [hadd] at h0
      split at h0
      rename_i c T fz hh
      have := (Array.getElem?_eq_some_iff.1 hh).1
      split at h0
      cases h0
      rename_i hs; exact ⟨this, by simpa using hs⟩
      cases h0
     have hspot0 : (a.add (i * P.cellsOf e)).spot = none := by simpa [Addr.add] using hblk.2
     have hae : ∀ j, j < P.cellsOf e -> (a.add (i * P.cellsOf e)).add j = ⟨a.block, a.off + i * P.cellsOf e + j, none⟩ := by
      intro j _
      unfold Addr.add at hspot0 ⊢
      split at hspot0
      ·rename_i hz
       simp only [hz, if_true, Nat.add_zero]
       split
       ·rename_i hj; subst hj; cases a; simp_all
       rfl
      rename_i hz
      simp only [hz, if_false]
      split
      rename_i hj; subst hj; rfl
      rfl
     have hrange : w.rangeAt a.block (a.off + i * P.cellsOf e) cs' := by
      intro j v hj
      have hjl := (List.getElem?_eq_some_iff.1 hj).1
      have := hcell j (by omega)
      rw [hae j (by omega), hj] at this
      exact this
     cases hag : aggT P e with
     | true =>
      refine ⟨l, .agg cs'.toArray, g2, ?_, by simp [Value.cells, hclen], by simpa [Value.cells] using g3, ?_, hblk.1, by simpa [Value.cells] using hrange⟩
      simp only [mkD, hag, cond_true, rep]
      exact ⟨cs', rfl, g1⟩
      rintro rfl; simpa [Addr.add] using hspot0
     | false =>
      rw [hag] at hone
      have h1 : P.cellsOf e = 1 := by simpa using hone
      rw [h1] at hclen
      obtain ⟨v, rfl⟩ := List.length_eq_one_iff.1 hclen
      obtain ⟨d, rfl⟩ : ∃ d, l = [d] := List.length_eq_one_iff.1 ((zds _ _ g1).symm.trans rfl)
      simp only [reps] at g1
      obtain ⟨v', vs', hv, hd, rfl⟩ := g1
      obtain rfl : v = v' := (List.cons.inj hv).1
      have hcv : v.cells = #[v] := by
       simp only [List.all_cons, List.all_nil, Bool.and_true] at g3
       cases v <;> first | rfl | simp [Value.oneCell'] at g3
      refine ⟨[d], v, g2, by simpa [mkD, hag] using hd, by simp [hcv, h1], by simpa [hcv] using g3, ?_, hblk.1, by simpa [hcv] using hrange⟩
      rintro rfl; simpa [Addr.add] using hspot0
    obtain ⟨xs, g1, g2, g3⟩ := zwq (C := C.at C.Z) (b := a.block) (s := P.cellsOf e) (p := zg2 P n e) (f := mkD P e) len a.off (fun i hi => by
     obtain ⟨l, v, h1, h2, h3, h4, _, _, h5⟩ := key i hi
     exact ⟨l, v, h1, h2, h3, h4, by subst hw; exact h5⟩)
    refine ⟨[.imm (P.cellsOf e) (xs.map (mkD P e)) 4], ?_, ⟨xs, rfl, g3⟩, rfl⟩
    simp only [reps, rep, List.length_map, g1]
    refine ⟨_, _, rfl, ⟨some a, cap, rfl, hl, by omega, by simp, by simp, by simp, by simp, by simp, ?_⟩, rfl⟩
    rcases Nat.eq_zero_or_pos len with h0 | h0
    left; subst h0; have := List.length_eq_zero_iff.1 g1; simp [this]
    right
    obtain ⟨_, _, _, _, _, _, k1, k2, _⟩ := key 0 h0
    intro Z hZ
    have hZ : C.Z = Z := by simpa [Cx.zone] using hZ
    subst hZ
    exact ⟨a, rfl, k1 rfl, hM _, hlo _, by exact ⟨by rw [hw]; exact k2, fun h => by simp at h⟩, g2⟩
  rename_i fs ht
  simp only [zg2, ht]
  obtain ⟨xs, m, _, _, hcl, hxl, hf⟩ := DataW.trod_struct ht h
  have key : ∀ (gs : List Field) (k : Nat), (∀ i f, gs[i]? = some f -> fs[k + i]? = some f) -> ∀ off, zld P (zr2 P n) off gs (P.cellsOf t) = true -> off <= cs.length -> 
    ∃ l, reps C l (cs.drop off) /\ zps (zg2 P n) (gs.map (·.type)) l /\ (cs.drop off).all (·.oneCell') = true := by
   intro gs
   induction gs with
   | nil =>
    intro k _ off ho _
    simp only [zld] at ho
    have ho := nb ho
    have : cs.drop off = [] := by rw [ho, <- hcl]; simp
    rw [this]
    exact ⟨[], by simp only [reps], rfl, rfl⟩
   | cons f gs ih =>
    intro k hk off ho hle
    simp only [zld, Bool.and_eq_true] at ho
    obtain ⟨⟨h1, h2⟩, h3⟩ := ho
    have h1 := nb h1
    have hfk := hf k f (by simpa using hk 0 f rfl)
    have hkl : k < xs.length := by
     have := hk 0 f rfl
     rw [hxl]
     exact (Array.getElem?_eq_some_iff.1 (by simpa using this)).1
    rw [List.getElem?_eq_getElem hkl, h1] at hfk
    obtain ⟨l1, g1, g2, g3⟩ := zpt n m f.type _ _ C hw hM hlo h2 hfk
    have hl1 : ((cs.drop off).take (P.cellsOf f.type)).length = P.cellsOf f.type := by
     have := zqt _ _ _ h3
     simp
     omega
    obtain ⟨l2, k1, k2, k3⟩ := ih (k + 1) (fun i f' hi => by have := hk (i + 1) f' (by simpa using hi); rwa [show k + (i + 1) = k + 1 + i by omega] at this) (off + P.cellsOf f.type) h3 (by
     simp at hl1; omega)
    have e : cs.drop off = (cs.drop off).take (P.cellsOf f.type) ++ cs.drop (off + P.cellsOf f.type) := by
     rw [<- List.drop_drop, List.take_append_drop]
    refine ⟨l1 ++ l2, by rw [e]; exact zp5 g1 k1, ⟨l1, l2, rfl, g2, k2⟩, by rw [e, List.all_append, g3, k3]; rfl⟩
  simpa using key fs.toList 0 (fun i f hi => by simpa using hi) 0 hd (Nat.zero_le _)
  cases hd
theorem ya02 {r : Reach} {b0 n : Nat} {t : TypeId} {v : Value} {d : DataW H} {ps : List MemPlace} {fr : Nat} (hd : zr2 P n t = true) (hval : Value.okWide P w r b0 t v) (h : DataW.Trod enc P w 0 sp true t v d ps) :
  ∃ l, zg2 P n t l /\ rep (cx0 w fr) (mkD P t l) v := by
 obtain ⟨fuel, h⟩ := h
 obtain ⟨l, h1, h2, h3⟩ := zpt n fuel t _ _ (cx0 w fr) rfl (fun _ h => h) (fun _ => trivial) hd h
 refine ⟨l, h2, ?_⟩
 unfold mkD aggT
 cases n with
 | zero => simp [zr2] at hd
 | succ n =>
  unfold zr2 at hd
  unfold Value.okWide at hval
  split at hd
  case h_5 fs ht =>
   rw [ht] at hval ⊢
   obtain ⟨cs, rfl, _⟩ := hval
   simp only [cond_true, rep]
   exact ⟨cs.toList, by simp, by simpa [Value.cells] using h1⟩
  case h_6 => cases hd
  all_goals
   rename_i ht
   rw [ht] at hval ⊢
   simp only [cond_false]
   have hcv : v.cells = #[v] := by
    cases v with
    | agg cs => simp [Cell.okWide, Cell.ok, ht] at hval
    | _ => rfl
   rw [hcv] at h1
   have hl : ∃ d, l = [d] := List.length_eq_one_iff.1 ((zds _ _ h1).symm.trans rfl)
   obtain ⟨d, rfl⟩ := hl
   simp only [reps] at h1
   obtain ⟨v', vs', hv, hd', _⟩ := h1
   obtain rfl : v = v' := by simpa using (List.cons.inj hv).1
   exact hd'
def zky (P : Program) (n : Nat) : List TypeId -> List D -> Prop
 | [], l => l = []
 | t :: ts, l => ∃ c r, l = mkD P t c :: r /\ zg2 P n t c /\ zky P n ts r
theorem zp1 {r : Reach} {b0 n fr : Nat} : ∀ {ts : List TypeId} {vs : List Value} {ds : List (DataW H)} {ps : List MemPlace}, ts.all (zr2 P n) = true -> (∀ (j : Nat) t v, ts[j]? = some t -> vs[j]? = some v -> Value.okWide P w r b0 t v) ->
  DataW.TrodAll enc P w 0 sp true ts vs ds ps -> ∃ l, zky P n ts l /\ reps (cx0 w fr) l vs
 | [], [], [], _, _, _, _ => ⟨[], rfl, by simp only [reps]⟩
 | t :: ts, v :: vs, d :: ds, ps, hd, hval, h => by
  obtain ⟨p, q, h1, h2, _⟩ := h
  simp only [List.all_cons, Bool.and_eq_true] at hd
  obtain ⟨c, g1, g2⟩ := ya02 (fr := fr) hd.1 (hval 0 t v rfl rfl) h1
  obtain ⟨l, k1, k2⟩ := zp1 hd.2 (fun j t v h h' => hval (j + 1) t v h h') h2
  exact ⟨_ :: l, ⟨c, l, rfl, g1, k1⟩, by simp only [reps]; exact ⟨_, _, rfl, g2, k2⟩⟩
 | [], _ :: _, _, _, _, _, h => h.elim
 | [], [], _ :: _, _, _, _, h => h.elim
 | _ :: _, [], _, _, _, _, h => h.elim
 | _ :: _, _ :: _, [], _, _, _, h => h.elim
theorem zng (hl : laidOutB P = true) {W W' : World} (hB : Below W.heap.size W W') {sp' : Nat -> Bool} : ∀ {ts : List TypeId} {vs : List Value} {ds : List (DataW H)} {ps : List MemPlace}, (ts.all fun t => P.readableRec t && Nat.blt t P.types.size) = true ->
  DataW.TrodAll enc P W 0 (fun _ => true) true ts vs ds ps -> (∀ p ∈ ps, p.block < W.heap.size /\ sp' p.block = true) -> DataW.TrodAll enc P W' 0 sp' true ts vs ds ps
 | [], [], [], _, _, h, _ => h
 | t :: ts, v :: vs, d :: ds, ps, hr, h, hp => by
  obtain ⟨p, q, h1, h2, rfl⟩ := h
  simp only [List.all_cons, Bool.and_eq_true] at hr
  refine ⟨p, q, WideElems.Trod_stays hl hr.1.1 (lb hr.1.2) h1 (fun x hx => hB.same (hp x (by simp [hx])).1) (fun x hx => (hp x (by simp [hx])).2), ?_, rfl⟩
  exact zng hl hB hr.2 h2 fun x hx => hp x (by simp [hx])
 | [], _ :: _, _, _, _, h, _ => h.elim
 | [], [], _ :: _, _, _, h, _ => h.elim
 | _ :: _, [], _, _, _, h, _ => h.elim
 | _ :: _, _ :: _, [], _, _, h, _ => h.elim
theorem zu0 {K : FuncId} {f : Func} {s : ChangeSpec} {apart fresh : Bool} {n : Nat} {tb : TypeId} (hl : laidOutB P = true) (hr : (f.params.toList.all fun t => P.readableRec t && Nat.blt t P.types.size) = true)
  (hd : f.params.toList.all (zr2 P n) = true) (hvars : s.vars = []) (hres : f.resultTypes = #[tb]) (hb : P.underlying tb = some .bool)
  (hfn : ∀ ds : List (DataW H), ds.length = f.params.size -> s.fn H ds = { results := [.lit (.bool true)], args := ds })
  (hK : ∀ l, zky P n f.params.toList l -> zb7 P K l (.bool true)) {W : World} {base : Nat} {args : Array Value} {ds gs : List (DataW H)} {before : List MemPlace}
  (hval : ∀ (j : Nat) t v, f.params[j]? = some t -> args[j]? = some v -> Value.okWide P W .any base t v) (hW : DataW.Whole enc P f.params.toList s.vars apart W args.toList ds gs before) :
  Calls P K args W fun e W' => ∃ v, e = .returned v /\ s.post enc P f apart fresh false false W args v W' := by
 have hW' := hW
 obtain ⟨p, q, hA, hV, rfl, hfz, hnd⟩ := hW
 rw [hvars] at hV
 have hlen : ds.length = f.params.size := by
  have : ∀ {ts : List TypeId} {vs : List Value} {ds : List (DataW H)} {ps : List MemPlace}, DataW.TrodAll enc P W 0 (fun _ => true) true ts vs ds ps -> ds.length = ts.length := by
   intro ts
   induction ts with
   | nil => intro vs ds ps h; cases vs <;> cases ds <;> first | rfl | exact h.elim
   | cons t ts ih => intro vs ds ps h; cases vs <;> cases ds <;> first | (obtain ⟨_, _, _, h2, _⟩ := h; simp [ih h2]) | exact h.elim
  simpa using this hA
 have hgs : gs = [] /\ q = [] := by
  cases gs with
  | nil => exact ⟨rfl, hV⟩
  | cons g gs => exact hV.elim
 obtain ⟨rfl, rfl⟩ := hgs
 obtain ⟨l, h1, h2⟩ := zp1 (fr := W.heap.size) hd (fun j t v h h' => hval j t v (by simpa using h) (by simpa using h')) hA
 refine ((hK l h1).2 W _ h2).mono fun e W' ⟨v, he, hk, _, hv⟩ => ⟨v, he, ?_⟩
 simp only [rep] at hv
 subst hv
 have hB := hk.below
 have hlt := hW'.lt
 have hf := hfn ds hlen
 refine ⟨ds, [], p ++ [], [], p, [], hW', ?_, ?_, ?_, ?_, fun h => by cases h⟩
 rw [List.append_nil, hf, hres]
 exact ⟨[], [], ⟨1, by simp [DataW.trod, Value.cells, hb]⟩, rfl, rfl⟩
 rw [List.append_nil, hf]
 exact zng hl hB hr hA fun x hx => ⟨hlt x (by simp [hx]), by simpa using hlt x (by simp [hx])⟩
 rw [List.append_nil, hf, hvars]
 rfl
 exact hB.frame _
end
theorem zzd {α : Type} {f : α -> D} {g : List D -> D} : ∀ (xs : List (List D)), (∀ x ∈ xs, ∃ y, g x = f y) -> ∃ l : List α, xs.map g = l.map f
 | [], _ => ⟨[], rfl⟩
 | x :: xs, h => by
  obtain ⟨y, hy⟩ := h x (by simp)
  obtain ⟨l, hl⟩ := zzd xs fun x hx => h x (by simp [hx])
  exact ⟨y :: l, by simp only [List.map_cons, hy, hl]⟩
section
variable {P : Program} {n : Nat} {t : TypeId} {l : List D}
theorem zm0 {d : D} (ha : aggT P t = false) : mkD P t [d] = d := by simp only [mkD, ha, cond_false, List.headD_cons]
theorem zn5 (ha : aggT P t = true) : mkD P t l = .agg l := by simp only [mkD, ha, cond_true]
theorem zdi {k : IntKind} (hu : P.underlying t = some (.int k)) (h : zg2 P (n + 1) t l) : ∃ m, l = [.int k m] := by
 rw [zg2, hu] at h; exact h
theorem zj9 (hu : P.underlying t = some .string) (h : zg2 P (n + 1) t l) : ∃ s, l = [.str s] := by
 rw [zg2, hu] at h; exact h
theorem zj3 {α : Type} (f : α -> D) {e : TypeId} {s : Nat} (hu : P.underlying t = some (.slice e)) (ha : aggT P t = false) (hc : P.cellsOf e = s) (hx : ∀ x, zg2 P n e x -> ∃ y, mkD P e x = f y) (h : zg2 P (n + 1) t l) :
  ∃ m : List α, mkD P t l = .imm s (m.map f) 4 := by
 rw [zg2, hu] at h
 obtain ⟨xs, rfl, hxs⟩ := h
 obtain ⟨m, hm⟩ := zzd (f := f) (g := mkD P e) xs fun x hx' => hx x (hxs x hx')
 exact ⟨m, by rw [zm0 ha, hm, hc]⟩
theorem zkf {e : TypeId} (hu : P.underlying t = some (.slice e)) (h : zg2 P (n + 1) t l) : ∃ d, l = [d] := by
 rw [zg2, hu] at h
 obtain ⟨xs, rfl, _⟩ := h
 exact ⟨_, rfl⟩
theorem zgh {fs : Array Field} (hu : P.underlying t = some (.struct fs)) (h : zg2 P (n + 1) t l) : zps (zg2 P n) (fs.toList.map (·.type)) l := by
 rw [zg2, hu] at h; exact h
theorem zak {p : TypeId -> List D -> Prop} {ts : List TypeId} (h : zps p (t :: ts) l) : ∃ l1 l2, l = l1 ++ l2 /\ p t l1 /\ zps p ts l2 := h
theorem zi3 {p : TypeId -> List D -> Prop} (h : zps p [] l) : l = [] := h
theorem zkx {ts : List TypeId} (h : zky P n (t :: ts) l) : ∃ c r, l = mkD P t c :: r /\ zg2 P n t c /\ zky P n ts r := h
theorem ztc (h : zky P n [] l) : l = [] := h
end
end Go.Tm
end

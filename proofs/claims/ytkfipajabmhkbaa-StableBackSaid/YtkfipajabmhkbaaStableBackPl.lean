/- Texts of the proof. -/
import Derived.WideKeyArgs
import Derived.ChangeSame
import Derived.ChangeArms
import Derived.OpenShut
import Derived.Carry
import Derived.Test.YtkfipajabmhkbaaRows
import Derived.WalkKit
import Derived.ProofKit
import Derived.Test.YtkfipajabmhkbaaStableBackPj
import Derived.Test.YtkfipajabmhkbaaStableBackPg
import Derived.Test.YtkfipajabmhkbaaStableBackPh
import Derived.Test.YtkfipajabmhkbaaStableBackPf
import Derived.Test.YtkfipajabmhkbaaStableBackPk
section
namespace Go.Proofs
open Go.Tm
set_option linter.unusedSimpArgs false
def voteAt (l : List TSeen) (g k : Int) : TVote := ((l.find? fun y => decide (y.Group = g ∧ y.Slot = k)).map TSeen.Vote).getD zV
def withV (l : List TSeen) (x : TSeen) : List TSeen := bef x l ++ ((if x.Vote = zV then [] else [x]) ++ aft x l)
def logAt (s : TStable) (g : Int) : Txts := s.Logs.getD g.toNat default
def newV (s : TStable) (r : TRecord) : TVote × Int :=
 if r.Kind = 1 then (if askE (voteAt s.Votes r.Group r.Slot) r.Ballot [] = 0 then ⟨r.Ballot, (voteAt s.Votes r.Group r.Slot).Ballot, (voteAt s.Votes r.Group r.Slot).Value⟩ else zV, askE (voteAt s.Votes r.Group r.Slot) r.Ballot [])
 else if r.Kind = 2 then (if askE (voteAt s.Votes r.Group r.Slot) r.Ballot r.Value = 0 then ⟨r.Ballot, r.Ballot, r.Value⟩ else zV, askE (voteAt s.Votes r.Group r.Slot) r.Ballot r.Value)
 else (zV, 0)
def putE (s : TStable) (r : TRecord) : Int := if r.Group ≥ (s.Logs.length : Int) then 6 else if r.Slot ≤ ((logAt s r.Group).length : Int) ∨ (r.Kind = 3 ∧ r.Slot ≠ ((logAt s r.Group).length : Int) + 1) then 8 else (newV s r).2
def putS (s : TStable) (r : TRecord) : TStable := ⟨if r.Kind = 3 then s.Logs.set r.Group.toNat (logAt s r.Group ++ [r.Value]) else s.Logs, withV s.Votes ⟨r.Group, r.Slot, (newV s r).1⟩⟩
theorem find_bef (l : List TSeen) (x : TSeen) : (bef x l).find? (fun y => decide (y.Group = x.Group ∧ y.Slot = x.Slot)) = none := by
 rw [List.find?_eq_none]
 intro y hy
 have := (bef_lt hy).2
 simp only [decide_eq_true_eq]
 unfold ltP at this
 omega
theorem find_aft (l : List TSeen) (x : TSeen) : (aft x l).find? (fun y => decide (y.Group = x.Group ∧ y.Slot = x.Slot)) = none := by
 rw [List.find?_eq_none]
 intro y hy
 have := (aft_lt hy).2
 simp only [decide_eq_true_eq]
 unfold ltP at this
 omega
theorem voteAt_no {l : List TSeen} {x : TSeen} (e : l = bef x l ++ aft x l) : voteAt l x.Group x.Slot = zV := by
 unfold voteAt
 rw [e, List.find?_append, find_bef, find_aft]
 rfl
theorem voteAt_yes {l : List TSeen} {x y : TSeen} (hy : sameP y x) (e : l = bef x l ++ y :: aft x l) : voteAt l x.Group x.Slot = y.Vote := by
 unfold voteAt
 rw [e, List.find?_append, find_bef, List.find?_cons_of_pos (by simpa [sameP] using hy)]
 rfl
theorem voteAt_with (l : List TSeen) (x : TSeen) : voteAt (withV l x) x.Group x.Slot = x.Vote := by
 unfold voteAt withV
 rw [List.find?_append, find_bef]
 by_cases h : x.Vote = zV
 ·rw [if_pos h, List.nil_append, find_aft, h]; rfl
 ·rw [if_neg h, List.singleton_append, List.find?_cons_of_pos (by simp)]; rfl
theorem getD_at {l A B : List TSeen} {y : TSeen} (e : l = A ++ y :: B) : l.getD A.length default = y := by
 rw [e, List.getD_eq_getElem?_getD, List.getElem?_append_right (Nat.le_refl _), Nat.sub_self]; rfl
theorem wr_i {n : Int} (h1 : -9223372036854775808 ≤ n) (h2 : n ≤ 9223372036854775807) : wr .i64 n = n := wr_eq _ _ (by show (-9223372036854775808 : Int) ≤ _; omega) (by show _ ≤ (9223372036854775807 : Int); omega)
theorem SOk.log {s : TStable} (h : SOk s) {g : Int} (h1 : 0 ≤ g) (h2 : g < (s.Logs.length : Int)) : LogOk (logAt s g) := by
 unfold logAt
 rw [List.getD_eq_getElem?_getD, List.getElem?_eq_getElem (by omega)]
 exact h.l _ (List.getElem_mem _)
theorem put_eq (s : TStable) (r : TRecord) (hs : SOk s) (hr : RecOk r) (hl : s.Votes.length < 900000) : m_stable_put s r = some (putE s r, if putE s r = 0 then putS s r else s) := by
 obtain ⟨hg, hsl, hvl, hk⟩ := hr
 rw [m_stable_put]
 by_cases h1 : r.Group ≥ (s.Logs.length : Int)
 ·have e : putE s r = 6 := by unfold putE; rw [if_pos h1]
  rw [if_pos h1, e]; rfl
 have hlog := hs.log hg.1 (by omega)
 have hll := hlog.1
 have ew : wr .i64 (((s.Logs.getD r.Group.toNat default).length : Int) + 1) = ((logAt s r.Group).length : Int) + 1 := by
  rw [wr_i (by omega) (by unfold logAt at hll; omega)]; rfl
 rw [if_neg h1, if_pos ⟨hg.1, by omega⟩, ew]
 by_cases h2 : r.Slot ≤ ((logAt s r.Group).length : Int) ∨ (r.Kind = 3 ∧ r.Slot ≠ ((logAt s r.Group).length : Int) + 1)
 ·have e : putE s r = 8 := by unfold putE; rw [if_neg h1, if_pos h2]
  rw [e]; exact if_pos h2
 have eE : putE s r = (newV s r).2 := by unfold putE; rw [if_neg h1, if_neg h2]
 refine (if_neg h2).trans ?_
 rw [eE]
 have hx : ∀ v : TVote, bef ⟨r.Group, r.Slot, v⟩ s.Votes = bef ⟨r.Group, r.Slot, zV⟩ s.Votes ∧ aft ⟨r.Group, r.Slot, v⟩ s.Votes = aft ⟨r.Group, r.Slot, zV⟩ s.Votes := fun _ => ⟨rfl, rfl⟩
 -- what the search tells, and what stands there
 obtain ⟨b, V, hfind, hvote, hrest⟩ : ∃ (b : Bool) (R : List TSeen), m_slices_BinarySearchFunc_Seen_Seen_Seen s.Votes (⟨r.Group, r.Slot, ⟨0, 0, []⟩⟩ : TSeen) m_stable_place = some (((bef ⟨r.Group, r.Slot, zV⟩ s.Votes).length : Int), b) ∧
   (if b = true then (if (0 ≤ ((bef ⟨r.Group, r.Slot, zV⟩ s.Votes).length : Int) ∧ ((bef ⟨r.Group, r.Slot, zV⟩ s.Votes).length : Int) < (s.Votes.length : Int)) then some ((s.Votes.getD (((bef ⟨r.Group, r.Slot, zV⟩ s.Votes).length : Int)).toNat default).Group, (s.Votes.getD (((bef ⟨r.Group, r.Slot, zV⟩ s.Votes).length : Int)).toNat default).Slot, (s.Votes.getD (((bef ⟨r.Group, r.Slot, zV⟩ s.Votes).length : Int)).toNat default).Vote.Promised, (s.Votes.getD (((bef ⟨r.Group, r.Slot, zV⟩ s.Votes).length : Int)).toNat default).Vote.Ballot, (s.Votes.getD (((bef ⟨r.Group, r.Slot, zV⟩ s.Votes).length : Int)).toNat default).Vote.Value) else none) else some (r.Group, r.Slot, 0, 0, [])) = some (r.Group, r.Slot, (voteAt s.Votes r.Group r.Slot).Promised, (voteAt s.Votes r.Group r.Slot).Ballot, (voteAt s.Votes r.Group r.Slot).Value) ∧
   s.Votes = bef ⟨r.Group, r.Slot, zV⟩ s.Votes ++ R ∧ (if b = true then ∃ y, R = y :: aft ⟨r.Group, r.Slot, zV⟩ s.Votes else R = aft ⟨r.Group, r.Slot, zV⟩ s.Votes) := by
  rcases find_eq s.Votes ⟨r.Group, r.Slot, zV⟩ (by omega) hs.p with ⟨e, hf⟩ | ⟨y, hy, e, hf⟩
  ·refine ⟨false, _, hf, ?_, e, ?_⟩
   ·have := voteAt_no e
    simp only at this
    rw [this]; rfl
   ·rfl
  ·refine ⟨true, _, hf, ?_, e, ⟨y, rfl⟩⟩
   have := voteAt_yes hy e
   simp only at this
   rw [this, if_pos rfl, Int.toNat_natCast, getD_at e]
   have hlen : (bef ⟨r.Group, r.Slot, zV⟩ s.Votes).length < s.Votes.length := by
    have := congrArg List.length e
    simp only [List.length_append, List.length_cons] at this
    omega
   rw [if_pos ⟨by omega, by omega⟩]
   obtain ⟨y1, y2⟩ := hy
   simp only at y1 y2
   rw [y1, y2]
 rw [hfind]
 simp only [Option.bind_some]
 obtain ⟨hsp, hV⟩ := hrest
 have hlen : (bef ⟨r.Group, r.Slot, zV⟩ s.Votes).length ≤ s.Votes.length := bef_len _ _
 -- the three kinds
 have upd : ∀ (v : TVote), v ≠ zV → (Option.bind (α := (List TSeen)) (if ¬ (b = true) then
   if 0 ≤ ((bef ⟨r.Group, r.Slot, zV⟩ s.Votes).length : Int) ∧ ((bef ⟨r.Group, r.Slot, zV⟩ s.Votes).length : Int) ≤ (s.Votes.length : Int) then
   if s.Votes.length < 1000000 then
   some ((s.Votes.take ((bef ⟨r.Group, r.Slot, zV⟩ s.Votes).length : Int).toNat) ++ ((⟨r.Group, r.Slot, (⟨v.Promised, v.Ballot, v.Value⟩ : TVote)⟩ : TSeen) :: (s.Votes.drop ((bef ⟨r.Group, r.Slot, zV⟩ s.Votes).length : Int).toNat)))
   else none else none else some s.Votes) fun l2 =>
   if (0 ≤ ((bef ⟨r.Group, r.Slot, zV⟩ s.Votes).length : Int) ∧ ((bef ⟨r.Group, r.Slot, zV⟩ s.Votes).length : Int) < (l2.length : Int)) then
   some (0, (⟨s.Logs, (l2.set ((bef ⟨r.Group, r.Slot, zV⟩ s.Votes).length : Int).toNat (⟨r.Group, r.Slot, (⟨v.Promised, v.Ballot, v.Value⟩ : TVote)⟩ : TSeen))⟩ : TStable))
   else none) = some ((0 : Int), (⟨s.Logs, withV s.Votes ⟨r.Group, r.Slot, v⟩⟩ : TStable)) := by
  intro v hv
  have hw : withV s.Votes ⟨r.Group, r.Slot, v⟩ = bef ⟨r.Group, r.Slot, zV⟩ s.Votes ++ ⟨r.Group, r.Slot, v⟩ :: aft ⟨r.Group, r.Slot, zV⟩ s.Votes := by
   unfold withV
   rw [if_neg hv]; rfl
  rw [Int.toNat_natCast]
  cases b with
  | false =>
   simp only [Bool.false_eq_true, if_false] at hV
   subst hV
   rw [if_pos (by simp), if_pos ⟨by omega, by omega⟩, if_pos (by omega)]
   have ht : s.Votes.take (bef ⟨r.Group, r.Slot, zV⟩ s.Votes).length = bef ⟨r.Group, r.Slot, zV⟩ s.Votes := by
    have : ∀ l A B : List TSeen, l = A ++ B → l.take A.length = A := by rintro _ A B rfl; exact List.take_left
    exact this _ _ _ hsp
   have hd : s.Votes.drop (bef ⟨r.Group, r.Slot, zV⟩ s.Votes).length = aft ⟨r.Group, r.Slot, zV⟩ s.Votes := by
    have : ∀ l A B : List TSeen, l = A ++ B → l.drop A.length = B := by rintro _ A B rfl; exact List.drop_left
    exact this _ _ _ hsp
   rw [ht, hd, Option.bind_some, if_pos ⟨by omega, by simp; omega⟩, hw]
   simp
  | true =>
   simp only [if_true] at hV
   obtain ⟨y, rfl⟩ := hV
   rw [if_neg (by simp), Option.bind_some]
   have hlt : (bef ⟨r.Group, r.Slot, zV⟩ s.Votes).length < s.Votes.length := by
    have := congrArg List.length hsp
    simp only [List.length_append, List.length_cons] at this
    omega
   rw [if_pos ⟨by omega, by omega⟩, hw]
   have : ∀ (l A B : List TSeen) (z w : TSeen), l = A ++ z :: B → l.set A.length w = A ++ w :: B := by rintro _ A B z w rfl; simp
   rw [this _ _ _ _ _ hsp]
 have hvv : (⟨(voteAt s.Votes r.Group r.Slot).Promised, (voteAt s.Votes r.Group r.Slot).Ballot, (voteAt s.Votes r.Group r.Slot).Value⟩ : TVote) = voteAt s.Votes r.Group r.Slot := rfl
 refine (congrArg (fun o => Option.bind o _) hvote).trans ?_
 rw [Option.bind_some]
 simp only
 rw [hvv, prepare_eq, accept_eq]
 simp only [Option.bind_some]
 rcases hk with ⟨k, kb, kv⟩ | ⟨k, kb⟩ | ⟨k, kb⟩
 ·have hn : newV s r = (if askE (voteAt s.Votes r.Group r.Slot) r.Ballot [] = 0 then ⟨r.Ballot, (voteAt s.Votes r.Group r.Slot).Ballot, (voteAt s.Votes r.Group r.Slot).Value⟩ else zV, askE (voteAt s.Votes r.Group r.Slot) r.Ballot []) := by unfold newV; rw [if_pos k]
  rw [if_pos k]
  simp only [Option.bind_some]
  by_cases ha : askE (voteAt s.Votes r.Group r.Slot) r.Ballot [] = 0
  ·rw [if_pos ha, if_neg (by simpa using ha)]
   refine (upd ⟨r.Ballot, (voteAt s.Votes r.Group r.Slot).Ballot, (voteAt s.Votes r.Group r.Slot).Value⟩ (fun e => kb.ne (congrArg TVote.Promised e))).trans ?_
   rw [hn]
   simp only
   unfold putS
   rw [hn, if_neg (by omega : ¬ r.Kind = 3)]
   simp only
   rw [if_pos ha, if_pos ha, ha]
  ·rw [if_neg ha, if_pos (by simpa using ha), hn]
   simp only
   rw [if_neg ha]
 ·have hn : newV s r = (if askE (voteAt s.Votes r.Group r.Slot) r.Ballot r.Value = 0 then ⟨r.Ballot, r.Ballot, r.Value⟩ else zV, askE (voteAt s.Votes r.Group r.Slot) r.Ballot r.Value) := by unfold newV; rw [if_neg (by omega), if_pos k]
  rw [if_neg (by omega), if_pos k]
  simp only [Option.bind_some]
  by_cases ha : askE (voteAt s.Votes r.Group r.Slot) r.Ballot r.Value = 0
  ·rw [if_pos ha, if_neg (by simpa using ha)]
   refine (upd ⟨r.Ballot, r.Ballot, r.Value⟩ (fun e => kb.ne (congrArg TVote.Promised e))).trans ?_
   rw [hn]
   simp only
   unfold putS
   rw [hn, if_neg (by omega : ¬ r.Kind = 3)]
   simp only
   rw [if_pos ha, if_pos ha, ha]
  ·rw [if_neg ha, if_pos (by simpa using ha), hn]
   simp only
   rw [if_neg ha]
 ·have hn : newV s r = (zV, 0) := by unfold newV; rw [if_neg (by omega), if_neg (by omega)]
  have hw : withV s.Votes ⟨r.Group, r.Slot, zV⟩ = bef ⟨r.Group, r.Slot, zV⟩ s.Votes ++ aft ⟨r.Group, r.Slot, zV⟩ s.Votes := by
   unfold withV
   rw [if_pos rfl]; rfl
  rw [if_neg (by omega), if_neg (by omega), Int.toNat_natCast]
  have hp : putS s r = ⟨s.Logs.set r.Group.toNat (logAt s r.Group ++ [r.Value]), withV s.Votes ⟨r.Group, r.Slot, zV⟩⟩ := by
   unfold putS
   rw [hn, if_pos k]
  have hE : (if b = true then if 0 ≤ ((bef ⟨r.Group, r.Slot, zV⟩ s.Votes).length : Int) ∧ ((bef ⟨r.Group, r.Slot, zV⟩ s.Votes).length : Int) < (s.Votes.length : Int) then
    if s.Votes.length < 1000000 then some (s.Votes.eraseIdx (bef ⟨r.Group, r.Slot, zV⟩ s.Votes).length) else none else none else some s.Votes) = some (withV s.Votes ⟨r.Group, r.Slot, zV⟩) := by
   cases b with
   | false =>
    simp only [Bool.false_eq_true, if_false] at hV ⊢
    subst hV
    rw [hw, ← hsp]
   | true =>
    simp only [if_true] at hV ⊢
    obtain ⟨y, rfl⟩ := hV
    have hlt : (bef ⟨r.Group, r.Slot, zV⟩ s.Votes).length < s.Votes.length := by
     have := congrArg List.length hsp
     simp only [List.length_append, List.length_cons] at this
     omega
    rw [if_pos ⟨by omega, by omega⟩, if_pos (by omega), hw]
    have : ∀ (l A B : List TSeen) (z : TSeen), l = A ++ z :: B → l.eraseIdx A.length = A ++ B := by
     rintro _ A B z rfl
     rw [List.eraseIdx_append_of_length_le (Nat.le_refl _), Nat.sub_self]; rfl
    rw [this _ _ _ _ hsp]
  rw [hE, hn, hp]
  rfl
end Go.Proofs
end
section
namespace Go.Proofs
open Go.Tm
set_option linter.unusedSimpArgs false
theorem get_loop : ∀ (l : List Int) (n2 : Nat) (n1 : Int), (∃ (n : Int) (k : Nat), m_num_Get_loop1 l n2 n1 = some (.inl (n, (k : Int), 0)) ∧ n2 < k ∧ k ≤ n2 + l.length ∧ 0 ≤ n ∧ n ≤ 1099511627776) ∨ m_num_Get_loop1 l n2 n1 = some (.inr ())
 | [], n2, n1 => .inr (by rw [m_num_Get_loop1])
 | y :: l, n2, n1 => by
  rw [m_num_Get_loop1]
  by_cases h5 : (n2 : Int) > 5
  ·rw [if_pos h5]; exact .inr rfl
  rw [if_neg h5, if_pos (by rw [wr_i (by omega) (by omega)]; omega)]
  split
  ·rcases get_loop l (n2 + 1) (bitw .or .i64 n1 (shw true .i64 (wr .i64 (bitw .and .u8 y 127)) (wr .i64 (7 * (n2 : Int))))) with ⟨n, k, h1, h2, h3, h4⟩ | h
   ·exact .inl ⟨n, k, h1, by omega, by simp only [List.length_cons]; omega, h4⟩
   ·exact .inr h
  ·have ek : wr .i64 ((n2 : Int) + 1) = ((n2 + 1 : Nat) : Int) := by rw [wr_i (by omega) (by omega)]; omega
   generalize bitw .or .i64 n1 (shw true .i64 (wr .i64 (bitw .and .u8 y 127)) (wr .i64 (7 * (n2 : Int)))) = N
   rw [ek]
   by_cases hz : y = 0 ∧ (n2 : Int) > 0
   ·rw [if_neg (fun h => h hz)]
    simp only [Option.bind_some]
    rw [if_pos (.inl hz)]
    exact .inr rfl
   ·rw [if_pos hz, m_num_in]
    simp only [Option.bind_some]
    by_cases hN : 0 ≤ N ∧ N ≤ 1099511627776
    ·rw [if_neg (by simp [hN.1, hN.2]; omega)]
     exact .inl ⟨N, n2 + 1, rfl, by omega, by simp only [List.length_cons]; omega, hN⟩
    ·rw [if_pos (.inr (by simp; omega))]
     exact .inr rfl
theorem get_tot (l : List Int) : ∃ (n : Int) (k : Nat) (e : Int), m_num_Get l = some (n, (k : Int), e) ∧ k ≤ l.length ∧ 0 ≤ n ∧ n ≤ 1099511627776 := by
 rw [m_num_Get]
 rcases get_loop l 0 0 with ⟨n, k, h1, _, h3, h4, h5⟩ | h
 ·rw [h1]; exact ⟨n, k, 0, rfl, by omega, h4, h5⟩
 ·rw [h]; exact ⟨0, 0, 8, rfl, Nat.zero_le _, by omega, by omega⟩
theorem next_tot (l : List Int) (b : Bool) : ∃ (n : Int) (k : Nat) (b' : Bool), m_record_Read_1 l b = some (n, l.drop k, b') ∧ k ≤ l.length := by
 obtain ⟨n, k, e, h1, h2, _⟩ := get_tot l
 rw [m_record_Read_1, h1]
 simp only [Option.bind_some]
 rw [if_pos ⟨by omega, by omega⟩, Int.toNat_natCast]
 exact ⟨n, k, _, rfl, h2⟩
theorem text_tot (l : List Int) (hl : (l.length : Int) ≤ 9223372036854775807) : ∃ (t : List UInt8) (k : Nat) (e : Int), m_num_GetText l = some (t, (k : Int), e) ∧ k ≤ l.length := by
 obtain ⟨n, k, e, h1, h2, h3, h4⟩ := get_tot l
 rw [m_num_GetText, h1]
 simp only [Option.bind_some]
 rw [wr_i (by omega) (by omega)]
 split
 ·exact ⟨[], 0, 8, rfl, Nat.zero_le _⟩
 ·rename_i hc
  rw [wr_i (by omega) (by omega), if_pos ⟨by omega, by omega, by omega⟩]
  exact ⟨_, k + n.toNat, 0, by
   have : ((k + n.toNat : Nat) : Int) = (k : Int) + n := by omega
   rw [this], by omega⟩
theorem has_eq (k : Int) : m_record_has k = some (((k == 1) || (k == 2)), ((k == 2) || (k == 3))) := rfl
theorem read_tot (t : List UInt8) (ht : (t.length : Int) ≤ 9223372036854775807) : ∃ r, m_record_Read t = some r := by
 have hlen : ((ofBytes t).length : Int) ≤ 9223372036854775807 := by
  have : (ofBytes t).length = t.length := by simp [ofBytes]
  omega
 rw [m_record_Read]
 obtain ⟨n1, k1, b1, e1, g1⟩ := next_tot (ofBytes t) false
 rw [e1]; simp only [Option.bind_some]
 obtain ⟨n2, k2, b2, e2, g2⟩ := next_tot ((ofBytes t).drop k1) b1
 rw [e2]; simp only [Option.bind_some]
 obtain ⟨n3, k3, b3, e3, g3⟩ := next_tot (((ofBytes t).drop k1).drop k2) b2
 rw [e3]; simp only [Option.bind_some]
 rw [has_eq]; simp only [Option.bind_some]
 obtain ⟨n4, k4, b4, e4, g4⟩ := next_tot ((((ofBytes t).drop k1).drop k2).drop k3) b3
 rw [e4]; simp only [Option.bind_some]
 have key : ∀ (l1 : List Int) (bb : Bool) (m : Int), (l1.length : Int) ≤ 9223372036854775807 → ∀ g : Bool × Bool, ∃ r, (Option.bind (α := (List Int) × Bool × (List UInt8)) (if (g.2 = true) ∧ (¬ (bb = true)) then
   Option.bind (m_num_GetText l1) fun v6 =>
   if (0 ≤ v6.2.1 ∧ v6.2.1 ≤ (l1.length : Int)) then
   some ((l1.drop v6.2.1.toNat), (v6.2.2 != 0), v6.1)
   else none
   else
   some (l1, bb, [])) fun (l2, b2, s1) =>
   Option.bind (if ¬ (((b2 = true) ∨ ((l2.length : Int) > 0)) ∨ (n1 > 255)) then m_record_Check (⟨(wr .u8 (bitw .and .i64 n1 255)), n2, n3, m, s1⟩ : TRecord) else some default) fun v7 =>
   if (((b2 = true) ∨ ((l2.length : Int) > 0)) ∨ (n1 > 255)) ∨ (¬ (v7 = 0)) then
   some ((⟨0, 0, 0, 0, []⟩ : TRecord), (8 : Int))
   else
   some ((⟨(wr .u8 (bitw .and .i64 n1 255)), n2, n3, m, s1⟩ : TRecord), 0)) = some r := by
  intro l1 bb m hl g
  have fin : ∀ (l2 : List Int) (b2 : Bool) (s1 : List UInt8), ∃ r, (Option.bind (if ¬ (((b2 = true) ∨ ((l2.length : Int) > 0)) ∨ (n1 > 255)) then m_record_Check (⟨(wr .u8 (bitw .and .i64 n1 255)), n2, n3, m, s1⟩ : TRecord) else some default) fun v7 =>
    if (((b2 = true) ∨ ((l2.length : Int) > 0)) ∨ (n1 > 255)) ∨ (¬ (v7 = 0)) then
    some ((⟨0, 0, 0, 0, []⟩ : TRecord), (8 : Int))
    else
    some ((⟨(wr .u8 (bitw .and .i64 n1 255)), n2, n3, m, s1⟩ : TRecord), 0)) = some r := by
   intro l2 b2 s1
   obtain ⟨z, hz⟩ : ∃ z, m_record_Check (⟨(wr .u8 (bitw .and .i64 n1 255)), n2, n3, m, s1⟩ : TRecord) = some z := ⟨_, rcheck_eq _⟩
   rw [hz]
   split
   ·simp only [Option.bind_some]
    split
    ·exact ⟨_, rfl⟩
    ·exact ⟨_, rfl⟩
   ·simp only [Option.bind_some]
    split
    ·exact ⟨_, rfl⟩
    ·exact ⟨_, rfl⟩
  split
  ·obtain ⟨t', k', e', h1, h2⟩ := text_tot l1 hl
   rw [h1]
   simp only [Option.bind_some]
   rw [if_pos ⟨by omega, by omega⟩]
   simp only [Option.bind_some]
   exact fin _ _ _
  ·simp only [Option.bind_some]
   exact fin _ _ _
 have d3 : (((((ofBytes t).drop k1).drop k2).drop k3).length : Int) ≤ 9223372036854775807 := by
  simp only [List.length_drop]; omega
 by_cases hv : ((wr .u8 (bitw .and .i64 n1 255) == 1) || (wr .u8 (bitw .and .i64 n1 255) == 2)) = true
 ·rw [if_pos hv]
  simp only [Option.bind_some]
  exact key _ b4 n4 (by simp only [List.length_drop] at d3 ⊢; omega) (true, _)
 ·rw [if_neg hv]
  simp only [Option.bind_some]
  exact key _ b3 0 d3 (true, _)
def rd (t : List UInt8) : TRecord × Int := (m_record_Read t).getD (⟨0, 0, 0, 0, []⟩, 8)
theorem rd_eq (t : List UInt8) (ht : (t.length : Int) ≤ 9223372036854775807) : m_record_Read t = some (rd t) := by
 obtain ⟨r, hr⟩ := read_tot t ht
 unfold rd
 rw [hr]; rfl
theorem rd_ok (t : List UInt8) (ht : (t.length : Int) ≤ 9223372036854775807) (h : (rd t).2 = 0) : RecOk (rd t).1 := read_ok t _ (rd_eq t ht) h
end Go.Proofs
end
section
namespace Go.Proofs
open Go.Tm
set_option linter.unusedVariables false
end Go.Proofs
end
section
namespace Go.Proofs
open Go.Tm
set_option linter.unusedSimpArgs false
theorem BOk.pos {b : Int} (h : BOk b) (h1 : -9223372036854775808 ≤ b) (h2 : b ≤ 9223372036854775807) : 8 ≤ b := by
 have h3 := h.1
 by_cases h0 : 0 ≤ b
 ·rw [Int.tdiv_eq_ediv_of_nonneg h0, wr_i (by omega) (by omega)] at h3
  omega
 ·have e : b.tdiv 8 = -((-b) / 8) := by
   rw [← Int.tdiv_eq_ediv_of_nonneg (by omega : 0 ≤ -b), Int.neg_tdiv, Int.neg_neg]
  rw [e, wr_i (by omega) (by omega)] at h3
  omega
theorem Up.app {A B : List TSeen} (h : Up A) (k : Up B) (hab : ∀ a ∈ A, ∀ b ∈ B, ltP a b) : Up (A ++ B) := List.pairwise_append.2 ⟨h, k, hab⟩
theorem Up.bef {l : List TSeen} (h : Up l) (x : TSeen) : Up (bef x l) := List.Pairwise.filter _ h
theorem Up.aft {l : List TSeen} (h : Up l) (x : TSeen) : Up (aft x l) := List.Pairwise.filter _ h
theorem mem_with {l : List TSeen} {x y : TSeen} (h : y ∈ withV l x) : (y = x ∧ x.Vote ≠ zV) ∨ (y ∈ l ∧ ¬ sameP y x) := by
 unfold withV at h
 rw [List.mem_append, List.mem_append] at h
 rcases h with h | h | h
 ·have := bef_lt h; exact .inr ⟨this.1, ltP_ns this.2⟩
 ·split at h
  ·cases h
  ·rename_i hz
   rw [List.mem_singleton] at h
   exact .inl ⟨h, hz⟩
 ·have := aft_lt h; exact .inr ⟨this.1, ltP_ns' this.2⟩
theorem Up.with {l : List TSeen} (h : Up l) (x : TSeen) : Up (withV l x) := by
 unfold withV
 refine (h.bef x).app (Up.app ?_ (h.aft x) ?_) ?_
 ·split
  ·exact List.Pairwise.nil
  ·exact List.pairwise_singleton _ _
 ·intro a ha b hb
  split at ha
  ·cases ha
  ·rw [List.mem_singleton] at ha; subst ha; exact (aft_lt hb).2
 ·intro a ha b hb
  rcases List.mem_append.1 hb with hb | hb
  ·split at hb
   ·cases hb
   ·rw [List.mem_singleton] at hb; subst hb; exact (bef_lt ha).2
  ·exact ltP_trans (bef_lt ha).2 (aft_lt hb).2
theorem VOk.at {s : TStable} (h : SOk s) (g k : Int) : VOk (voteAt s.Votes g k) := by
 unfold voteAt
 cases hf : s.Votes.find? fun y => decide (y.Group = g ∧ y.Slot = k) with
 | none => exact ⟨.inl rfl, by rfl⟩
 | some y => exact (h.v y (List.mem_of_find?_eq_some hf)).2.2.2.2
theorem newV_ok {s : TStable} (_ : SOk s) {r : TRecord} (hr : RecOk r) (h : (newV s r).2 = 0) (hz : (newV s r).1 ≠ zV) : (newV s r).1.Promised ≠ 0 ∧ VOk (newV s r).1 := by
 unfold newV at h hz ⊢
 obtain ⟨_, _, _, h3⟩ := hr
 rcases h3 with ⟨k, b, _⟩ | ⟨k, b⟩ | ⟨k, _⟩
 ·rw [if_pos k] at h ⊢
  simp only at h ⊢
  rw [if_pos h]
  exact ⟨b.ne, VOk.prep (askE_0.1 h)⟩
 ·rw [if_neg (by omega), if_pos k] at h ⊢
  simp only at h ⊢
  rw [if_pos h]
  exact ⟨b.ne, VOk.acc (askE_0.1 h)⟩
 ·rw [if_neg (by omega), if_neg (by omega)] at hz
  exact absurd rfl hz
theorem putE_0 {s : TStable} {r : TRecord} (h : putE s r = 0) : r.Group < (s.Logs.length : Int) ∧ ((logAt s r.Group).length : Int) < r.Slot ∧ (r.Kind = 3 → r.Slot = ((logAt s r.Group).length : Int) + 1) ∧ (newV s r).2 = 0 := by
 unfold putE at h
 split at h
 ·cases h
 ·split at h
  ·cases h
  ·exact ⟨by omega, by omega, fun k => by omega, h⟩
theorem logs_put (s : TStable) (r : TRecord) : (putS s r).Logs.length = s.Logs.length := by
 unfold putS
 simp only
 split
 ·rw [List.length_set]
 ·rfl
theorem getD_set (L : List Txts) (k j : Nat) (x : Txts) (h : k < L.length) : (L.set k x).getD j default = if k = j then x else L.getD j default := by
 rw [List.getD_eq_getElem?_getD, List.getElem?_set]
 split
 ·rename_i e; subst e; simp [h]
 ·rw [List.getD_eq_getElem?_getD]
theorem SOk.put {s : TStable} {r : TRecord} (hs : SOk s) (hr : RecOk r) (h0 : putE s r = 0) : SOk (putS s r) := by
 obtain ⟨h1, h2, h3, h4⟩ := putE_0 h0
 have hl := logs_put s r
 have hg := hr.1
 have hlog := hs.log hg.1 h1
 have hlk : ∀ g : Int, 0 ≤ g → g < (s.Logs.length : Int) → (((putS s r).Logs.getD g.toNat default).length : Int) = ((s.Logs.getD g.toNat default).length : Int) + (if r.Kind = 3 ∧ g = r.Group then 1 else 0) := by
  intro g a b
  unfold putS
  simp only
  by_cases k : r.Kind = 3
  ·rw [if_pos k, getD_set _ _ _ _ (by omega)]
   by_cases e : g = r.Group
   ·rw [if_pos (by rw [e]), if_pos ⟨k, e⟩, e, List.length_append]
    unfold logAt
    simp
   ·rw [if_neg (by omega), if_neg (fun h => e h.2)]; omega
  ·rw [if_neg k, if_neg (fun h => k h.1)]; omega
 refine ⟨by rw [hl]; exact hs.n, ?_, ?_, hs.p.with _⟩
 ·intro l hlm
  unfold putS at hlm
  simp only at hlm
  split at hlm
  ·rename_i k
   rcases List.mem_or_eq_of_mem_set hlm with h | h
   ·exact hs.l l h
   ·subst h
    refine ⟨?_, fun v hv => ?_⟩
    ·have := h3 k
     have := hr.2.1.2
     rw [List.length_append, List.length_singleton]
     omega
    ·rcases List.mem_append.1 hv with h | h
     ·exact hlog.2 v h
     ·rw [List.mem_singleton] at h; subst h; exact hr.2.2.1
  ·exact hs.l l hlm
 ·intro v hv
  rcases mem_with (show v ∈ withV s.Votes _ from hv) with ⟨rfl, hz⟩ | ⟨hm, hns⟩
  ·have hk : r.Kind ≠ 3 := by
    intro k
    refine hz ?_
    show (newV s r).1 = zV
    unfold newV
    rw [if_neg (by omega), if_neg (by omega)]
   obtain ⟨n1, n2⟩ := newV_ok hs hr h4 hz
   refine ⟨⟨hg.1, by rw [hl]; exact h1⟩, ?_, hr.2.1.2, n1, n2⟩
   rw [hlk _ hg.1 h1, if_neg (fun h => hk h.1)]
   have : ((s.Logs.getD r.Group.toNat default).length : Int) < r.Slot := h2
   simp only
   omega
  ·obtain ⟨v1, v2, v3, v4, v5⟩ := hs.v v hm
   refine ⟨⟨v1.1, by rw [hl]; exact v1.2⟩, ?_, v3, v4, v5⟩
   rw [hlk _ v1.1 v1.2]
   split
   ·rename_i k
    have e3 := h3 k.1
    have e4 : ((s.Logs.getD v.Group.toNat default).length : Int) = ((logAt s r.Group).length : Int) := by rw [k.2]; rfl
    have : ¬ (v.Group = r.Group ∧ v.Slot = r.Slot) := hns
    omega
   ·omega
def eStb : TStable := ⟨[], []⟩
theorem gt_loop (l : List Txts) : ∀ n, ∃ r, m_towncrierref11_Great_loop1 l n = some r ∧ ∀ b, r = .inl b → b = true := by
 induction l with
 | nil => intro n; exact ⟨_, rfl, fun b h => by cases h⟩
 | cons y l ih =>
  intro n
  have hg : ∃ b, m_towncrierref01_Great y = some b := by
   have : ∀ (l : Txts) (a : Nat) (b : Int), ∃ c, m_towncrierref01_Great_loop1 l a b = some c := by
    intro l
    induction l with
    | nil => intro a b; exact ⟨_, m_towncrierref01_Great_loop1_n a b⟩
    | cons z l ih =>
     intro a b
     rw [m_towncrierref01_Great_loop1_c]
     split
     ·exact ih _ _
     ·exact ⟨_, rfl⟩
   obtain ⟨c, hc⟩ := this y 0 0
   rw [m_towncrierref01_Great, hc]
   exact ⟨_, rfl⟩
  obtain ⟨b, hb⟩ := hg
  rw [m_towncrierref11_Great_loop1]
  split
  ·rw [hb]
   simp only [Option.bind_some]
   split
   ·exact ⟨_, rfl, fun b h => by cases h; rfl⟩
   ·exact ih _
  ·exact ⟨_, rfl, fun b h => by cases h⟩
theorem great_eq (s : TStable) : ∃ b, m_towncrierref11_Great s = some b ∧ (b = false → s.Votes.length ≤ 1000 ∧ s.Logs.length ≤ 10) := by
 rw [m_towncrierref11_Great]
 obtain ⟨r, hr, hb⟩ := gt_loop s.Logs 0
 rw [hr]
 cases r with
 | inl b => exact ⟨b, rfl, fun h => by rw [hb b rfl] at h; cases h⟩
 | inr u =>
  simp only [Option.bind_some]
  have : ∀ (l : List TSeen) (a : Nat) (b : Int), ∃ c, m_towncrierref11_Great_loop2 l a b = some c := by
   intro l
   induction l with
   | nil => intro a b; exact ⟨_, m_towncrierref11_Great_loop2_n a b⟩
   | cons z l ih =>
    intro a b
    rw [m_towncrierref11_Great_loop2_c]
    split
    ·exact ih _ _
    ·exact ⟨_, rfl⟩
  obtain ⟨c, hc⟩ := this s.Votes 0 0
  rw [hc]
  refine ⟨_, rfl, fun h => ?_⟩
  simp only [Bool.or_eq_false_iff, decide_eq_false_iff_not] at h
  exact ⟨by omega, by omega⟩
end Go.Proofs
end
section
namespace Go.Proofs
open Go.Tm
set_option linter.unusedSimpArgs false
theorem len_with' {l : List TSeen} (hu : Up l) (x : TSeen) : (withV l x).length ≤ l.length + 1 := by
 have h : (bef x l).length + (aft x l).length ≤ l.length := by
  rcases split_at x l hu with e | ⟨y, _, e⟩
  ·have := congrArg List.length e
   rw [List.length_append] at this
   omega
  ·have := congrArg List.length e
   simp only [List.length_append, List.length_cons] at this
   omega
 unfold withV
 simp only [List.length_append]
 split <;> simp <;> omega
noncomputable def stS (s : TStable) (t : List UInt8) : TStable × Int :=
 if (rd t).2 = 0 then if putE s (rd t).1 = 0 then (putS s (rd t).1, 0) else (eStb, putE s (rd t).1) else (eStb, (rd t).2)
noncomputable def foldS : TStable → Txts → TStable × Int
 | s, [] => (s, 0)
 | s, t :: l => if (stS s t).2 = 0 then foldS (stS s t).1 l else (eStb, (stS s t).2)
abbrev Short (l : Txts) : Prop := ∀ t ∈ l, (t.length : Int) ≤ 9223372036854775807
theorem stS_ok {s : TStable} {t : List UInt8} (hs : SOk s) (ht : (t.length : Int) ≤ 9223372036854775807) (h : (stS s t).2 = 0) : SOk (stS s t).1 ∧ (stS s t).1.Votes.length ≤ s.Votes.length + 1 := by
 unfold stS at h ⊢
 by_cases h1 : (rd t).2 = 0
 ·rw [if_pos h1] at h ⊢
  by_cases h2 : putE s (rd t).1 = 0
  ·rw [if_pos h2]
   exact ⟨hs.put (rd_ok t ht h1) h2, len_with' hs.p _⟩
  ·rw [if_neg h2] at h
   exact absurd h h2
 ·rw [if_neg h1] at h
  exact absurd h h1
theorem foldS_bad : ∀ (l : Txts) (s : TStable), (foldS s l).2 ≠ 0 → (foldS s l).1 = eStb
 | [], s, h => absurd rfl h
 | t :: l, s, h => by
  rw [foldS] at h ⊢
  by_cases h0 : (stS s t).2 = 0
  ·rw [if_pos h0] at h ⊢
   exact foldS_bad l _ h
  ·rw [if_neg h0]
theorem replay_loop : ∀ (l : Txts) (s : TStable), SOk s → Short l → s.Votes.length + l.length < 900000 →
  m_stable_Replay_loop1 l s.Logs s.Votes = some (if (foldS s l).2 = 0 then .inr ((foldS s l).1.Logs, (foldS s l).1.Votes) else .inl (eStb, (foldS s l).2))
 | [], s, _, _, _ => by rw [m_stable_Replay_loop1]; simp [foldS]
 | t :: l, s, hs, hl, hn => by
  have ht := hl t (List.mem_cons_self ..)
  simp only [List.length_cons] at hn
  have hsd : (⟨s.Logs, s.Votes⟩ : TStable) = s := rfl
  rw [m_stable_Replay_loop1, rd_eq t ht]
  simp only [Option.bind_some]
  have one : (if (rd t).2 = 0 then Option.bind (m_stable_put (⟨s.Logs, s.Votes⟩ : TStable) (rd t).1) fun v3 => some (v3.2.Logs, v3.2.Votes, v3.1) else some (s.Logs, s.Votes, (rd t).2)) =
    some (if (stS s t).2 = 0 then ((stS s t).1.Logs, (stS s t).1.Votes, 0) else (s.Logs, s.Votes, (stS s t).2)) := by
   unfold stS
   by_cases h1 : (rd t).2 = 0
   ·rw [if_pos h1, hsd, put_eq s _ hs (rd_ok t ht h1) (by omega)]
    simp only [Option.bind_some]
    by_cases h2 : putE s (rd t).1 = 0
    ·simp [h1, h2]
    ·simp [h1, h2]
   ·simp [h1]
  rw [foldS]
  refine (congrArg (fun o => Option.bind o _) one).trans ?_
  rw [Option.bind_some]
  by_cases h0 : (stS s t).2 = 0
  ·obtain ⟨k1, k2⟩ := stS_ok hs ht h0
   rw [if_pos h0, if_pos h0]
   simp only
   rw [if_neg (by simp)]
   exact replay_loop l _ k1 (fun x hx => hl x (List.mem_cons_of_mem _ hx)) (by omega)
  ·rw [if_neg h0, if_neg h0]
   simp only
   rw [if_pos h0, if_neg h0]; rfl
def newS (n : Int) : TStable := ⟨List.replicate n.toNat [], []⟩
theorem new_eq (n : Int) : m_stable_New n = some (if 1 ≤ n ∧ n ≤ 4 then (newS n, 0) else (eStb, 2)) := by
 rw [m_stable_New]
 by_cases h : 1 ≤ n ∧ n ≤ 4
 ·rw [if_neg (by omega), if_pos (by omega), if_pos h, List.take_of_length_le (by simp)]; rfl
 ·rw [if_pos (by omega), if_neg h]; rfl
theorem new_ok {n : Int} (h : 1 ≤ n ∧ n ≤ 4) : SOk (newS n) := by
 refine ⟨by unfold newS; simp; omega, fun l hl => ?_, (fun v hv => by cases hv), List.Pairwise.nil⟩
 unfold newS at hl
 rw [List.eq_of_mem_replicate hl]
 exact ⟨by simp, fun v hv => by cases hv⟩
theorem replay_eq (n : Int) (l : Txts) (hl : Short l) (hn : l.length ≤ 65536) : m_stable_Replay n l = some (if 1 ≤ n ∧ n ≤ 4 then foldS (newS n) l else (eStb, 2)) := by
 rw [m_stable_Replay, new_eq]
 simp only [Option.bind_some]
 by_cases h : 1 ≤ n ∧ n ≤ 4
 ·rw [if_pos h, if_pos h, if_neg (by simp), if_neg (by omega)]
  rw [replay_loop l (newS n) (new_ok h) hl (by unfold newS; simp; omega)]
  simp only [Option.bind_some]
  by_cases h0 : (foldS (newS n) l).2 = 0
  ·rw [if_pos h0]
   simp only
   rw [← h0]
  ·rw [if_neg h0]
   simp only
   rw [← foldS_bad _ _ h0]
 ·rw [if_neg h, if_neg h, if_pos (by decide)]; rfl
theorem eqs_loop (b : Txts) : ∀ (l : Txts) (n : Nat), b.drop n = l → m_slices_Equal_string_string_loop1 b l n = some (.inr ())
 | [], n, _ => by rw [m_slices_Equal_string_string_loop1]
 | y :: l, n, h => by
  have hn : n < b.length := by
   rcases Nat.lt_or_ge n b.length with h' | h'
   ·exact h'
   ·rw [List.drop_of_length_le h'] at h; cases h
  have hd := h
  rw [List.drop_eq_getElem_cons hn] at hd
  obtain ⟨hy, hr⟩ := List.cons.inj hd
  have e : b.getD n default = y := by rw [List.getD_eq_getElem?_getD, List.getElem?_eq_getElem hn, hy]; rfl
  rw [m_slices_Equal_string_string_loop1, if_pos hn, e, if_neg (by simp), eqs_loop b l (n + 1) hr]
theorem eqs_refl (l : Txts) : m_slices_Equal_string_string l l = some true := by
 rw [m_slices_Equal_string_string, if_neg (by simp), eqs_loop l l 0 rfl]
 rfl
theorem eqv_loop (b : List TSeen) : ∀ (l : List TSeen) (n : Nat), b.drop n = l → m_slices_Equal_Seen_Seen_loop1 b l n = some (.inr ())
 | [], n, _ => by rw [m_slices_Equal_Seen_Seen_loop1]
 | y :: l, n, h => by
  have hn : n < b.length := by
   rcases Nat.lt_or_ge n b.length with h' | h'
   ·exact h'
   ·rw [List.drop_of_length_le h'] at h; cases h
  have hd := h
  rw [List.drop_eq_getElem_cons hn] at hd
  obtain ⟨hy, hr⟩ := List.cons.inj hd
  have e : b.getD n default = y := by rw [List.getD_eq_getElem?_getD, List.getElem?_eq_getElem hn, hy]; rfl
  rw [m_slices_Equal_Seen_Seen_loop1, if_pos hn, e, if_neg (by simp), eqv_loop b l (n + 1) hr]
theorem eqv_refl (l : List TSeen) : m_slices_Equal_Seen_Seen l l = some true := by
 rw [m_slices_Equal_Seen_Seen, if_neg (by simp), eqv_loop l l 0 rfl]
 rfl
theorem eql_loop (b : List Txts) : ∀ (l : List Txts) (n : Nat), b.drop n = l → m_slices_EqualFunc_string_string_string_string_loop1 b m_slices_Equal_string_string l n = some (.inr ())
 | [], n, _ => by rw [m_slices_EqualFunc_string_string_string_string_loop1]
 | y :: l, n, h => by
  have hn : n < b.length := by
   rcases Nat.lt_or_ge n b.length with h' | h'
   ·exact h'
   ·rw [List.drop_of_length_le h'] at h; cases h
  have hd := h
  rw [List.drop_eq_getElem_cons hn] at hd
  obtain ⟨hy, hr⟩ := List.cons.inj hd
  have e : b.getD n default = y := by rw [List.getD_eq_getElem?_getD, List.getElem?_eq_getElem hn, hy]; rfl
  rw [m_slices_EqualFunc_string_string_string_string_loop1, if_pos hn, e, eqs_refl]
  simp only [Option.bind_some]
  rw [if_neg (by simp), eql_loop b l (n + 1) hr]
theorem same_st (s : TStable) : m_stable_Same s s = some true := by
 rw [m_stable_Same, m_slices_EqualFunc_string_string_string_string, if_neg (by simp), eql_loop s.Logs s.Logs 0 rfl]
 simp only [Option.bind_some, if_true]
 rw [eqv_refl]
 rfl
end Go.Proofs
end
section
namespace Go.Proofs
open Go.Tm
set_option linter.unusedSimpArgs false
theorem i64w {n : Int} (h1 : 0 ≤ n) (h2 : n ≤ 9223372036854775807) : IntKind.i64.wrap n = n := by
 simp [IntKind.wrap, IntKind.bits, IntKind.signed]; omega
theorem bv64 (a : Nat) (h : a < 18446744073709551616) : (BitVec.ofInt 64 (a : Int)).toNat = a := by
 rw [BitVec.ofInt_natCast, BitVec.toNat_ofNat]; exact Nat.mod_eq_of_lt (by omega)
theorem and64 (a b : Nat) (ha : a < 9223372036854775808) (hb : b < 9223372036854775808) : bitw .and .i64 (a : Int) (b : Int) = ((a &&& b : Nat) : Int) := by
 have hx : a &&& b < 2 ^ 63 := Nat.and_lt_two_pow _ (by omega)
 unfold bitw
 show IntKind.i64.wrap ((BitVec.ofInt 64 (a : Int) &&& BitVec.ofInt 64 (b : Int)).toNat : Int) = _
 rw [BitVec.toNat_and, bv64 a (by omega), bv64 b (by omega)]
 exact i64w (by omega) (by omega)
theorem or64 (a b : Nat) (ha : a < 9223372036854775808) (hb : b < 9223372036854775808) : bitw .or .i64 (a : Int) (b : Int) = ((a ||| b : Nat) : Int) := by
 have hx : a ||| b < 2 ^ 63 := Nat.or_lt_two_pow (by omega) (by omega)
 unfold bitw
 show IntKind.i64.wrap ((BitVec.ofInt 64 (a : Int) ||| BitVec.ofInt 64 (b : Int)).toNat : Int) = _
 rw [BitVec.toNat_or, bv64 a (by omega), bv64 b (by omega)]
 exact i64w (by omega) (by omega)
theorem bv8 (a : Nat) (h : a < 256) : (BitVec.ofInt 8 (a : Int)).toNat = a := by
 rw [BitVec.ofInt_natCast, BitVec.toNat_ofNat]; exact Nat.mod_eq_of_lt (by omega)
theorem and8 (a : Nat) (ha : a < 256) : bitw .and .u8 (a : Int) 127 = ((a % 128 : Nat) : Int) := by
 have e := Nat.and_two_pow_sub_one_eq_mod a 7
 simp only [Nat.reducePow, Nat.reduceSub] at e
 unfold bitw
 show IntKind.u8.wrap ((BitVec.ofInt 8 (a : Int) &&& BitVec.ofInt 8 ((127 : Nat) : Int)).toNat : Int) = _
 rw [BitVec.toNat_and, bv8 a ha, bv8 127 (by decide), e]
 simp [IntKind.wrap, IntKind.bits, IntKind.signed]; omega
theorem and127 (a : Nat) (ha : a < 9223372036854775808) : bitw .and .i64 (a : Int) 127 = ((a % 128 : Nat) : Int) := by
 have e := Nat.and_two_pow_sub_one_eq_mod a 7
 simp only [Nat.reducePow, Nat.reduceSub] at e
 have := and64 a 127 ha (by decide)
 rw [e] at this
 exact this
theorem and255 (a : Nat) (ha : a < 9223372036854775808) : bitw .and .i64 (a : Int) 255 = ((a % 256 : Nat) : Int) := by
 have e := Nat.and_two_pow_sub_one_eq_mod a 8
 simp only [Nat.reducePow, Nat.reduceSub] at e
 have := and64 a 255 ha (by decide)
 rw [e] at this
 exact this
theorem or128 (a : Nat) (ha : a < 128) : bitw .or .i64 (a : Int) 128 = ((a + 128 : Nat) : Int) := by
 have e := Nat.two_pow_add_eq_or_of_lt (i := 7) (b := a) (by omega) 1
 simp only [Nat.reducePow, Nat.mul_one] at e
 have := or64 a 128 (by omega) (by decide)
 rw [Nat.or_comm, ← e, Nat.add_comm] at this
 exact this
theorem wr8 {n : Nat} (h : n < 256) : wr .u8 (n : Int) = (n : Int) := wr_eq _ _ (by show (0 : Int) ≤ _; omega) (by show _ ≤ (255 : Int); omega)
theorem sh7 (n : Nat) : shw false .i64 (n : Int) 7 = ((n / 128 : Nat) : Int) := by
 unfold shw
 show Int.fdiv (n : Int) 128 = _
 rw [Int.fdiv_eq_ediv_of_nonneg _ (by omega)]
 omega
def enc (n : Nat) : List Int := if n < 128 then [(n : Int)] else ((n % 128 + 128 : Nat) : Int) :: enc (n / 128)
termination_by n
decreasing_by omega
theorem enc_lt {n : Nat} (h : n < 128) : enc n = [(n : Int)] := by rw [enc, if_pos h]
theorem enc_ge {n : Nat} (h : ¬ n < 128) : enc n = ((n % 128 + 128 : Nat) : Int) :: enc (n / 128) := by rw [enc, if_neg h]
theorem enc_len : ∀ (k n : Nat), n < 128 ^ (k + 1) → (enc n).length ≤ k + 1
 | 0, n, h => by rw [enc_lt (by simpa using h)]; simp
 | k + 1, n, h => by
  by_cases h1 : n < 128
  ·rw [enc_lt h1]; simp
  ·rw [enc_ge h1, List.length_cons]
   have := enc_len k (n / 128) (by rw [Nat.pow_succ] at h; omega)
   omega
def Bytes (l : List Int) : Prop := ∀ x ∈ l, 0 ≤ x ∧ x < 256
theorem Bytes.app {a b : List Int} (h : Bytes a) (k : Bytes b) : Bytes (a ++ b) := fun x hx => (List.mem_append.1 hx).elim (h x) (k x)
theorem enc_bytes (n : Nat) : Bytes (enc n) := by
 induction n using Nat.strongRecOn with
 | _ n ih =>
  by_cases h : n < 128
  ·rw [enc_lt h]
   intro x hx
   rw [List.mem_singleton] at hx
   omega
  ·rw [enc_ge h]
   intro x hx
   rcases List.mem_cons.1 hx with rfl | hx
   ·omega
   ·exact ih (n / 128) (by omega) x hx
theorem put_loop : ∀ (fu : Nat) (l : List Int) (n : Nat), n < 128 ^ fu → n < 9223372036854775808 → l.length + fu < 100000 → ∃ (I : List Int) (m : Nat), m_num_put_loop1 (fu + 1) l (n : Int) = some (l ++ I, (m : Int)) ∧ m < 128 ∧ enc n = I ++ [(m : Int)]
 | 0, l, n, h, _, _ => by
  have : n = 0 := by simpa using h
  subst this
  exact ⟨[], 0, by rw [m_num_put_loop1, if_neg (by decide), List.append_nil], by decide, enc_lt (by decide)⟩
 | fu + 1, l, n, h, h2, hl => by
  rw [m_num_put_loop1]
  by_cases h1 : n < 128
  ·rw [if_neg (by omega)]
   exact ⟨[], n, by rw [List.append_nil], h1, enc_lt h1⟩
  ·rw [if_pos (by omega), and127 n h2, or128 _ (by omega), wr8 (by omega), sh7, if_pos (by simp; omega)]
   obtain ⟨I, m, e1, e2, e3⟩ := put_loop fu (l ++ [((n % 128 + 128 : Nat) : Int)]) (n / 128) (by rw [Nat.pow_succ] at h; omega) (by omega) (by simp; omega)
   exact ⟨((n % 128 + 128 : Nat) : Int) :: I, m, by rw [e1, List.append_assoc]; rfl, e2, by rw [enc_ge h1, e3]; rfl⟩
theorem put_enc (n : Nat) (h : n < 9223372036854775808) : m_num_put (n : Int) = some (enc n) := by
 obtain ⟨I, m, e1, e2, e3⟩ := put_loop 10 [] n (by omega) h (by simp)
 rw [m_num_put, e1]
 simp only [Option.bind_some]
 have hi : I.length ≤ 10 := by
  have := enc_len 9 n (by omega)
  rw [e3] at this
  simp at this
  omega
 rw [if_pos (by simp; omega), wr8 (by omega), e3]; rfl
theorem in_eq (n : Int) : m_num_in n = some (decide (0 ≤ n ∧ n ≤ 1099511627776)) := by
 rw [m_num_in]
 congr 1
 rw [Bool.eq_iff_iff]
 simp
theorem Put_enc (n : Nat) (h : n ≤ 1099511627776) : m_num_Put (n : Int) = some (enc n, 0) := by
 rw [m_num_Put, in_eq]
 simp only [Option.bind_some]
 rw [decide_eq_true (by omega), if_neg (by simp), put_enc n (by omega)]; rfl
def pw : Nat → Nat
 | 0 => 1
 | 1 => 128
 | 2 => 16384
 | 3 => 2097152
 | 4 => 268435456
 | 5 => 34359738368
 | _ => 4398046511104
theorem pw_eq {i : Nat} (hi : i ≤ 5) : 2 ^ (7 * i) = pw i := by
 rcases (by omega : i = 0 ∨ i = 1 ∨ i = 2 ∨ i = 3 ∨ i = 4 ∨ i = 5) with rfl | rfl | rfl | rfl | rfl | rfl <;> rfl
theorem pw_le {i : Nat} (hi : i ≤ 5) : pw i ≤ 34359738368 := by
 rcases (by omega : i = 0 ∨ i = 1 ∨ i = 2 ∨ i = 3 ∨ i = 4 ∨ i = 5) with rfl | rfl | rfl | rfl | rfl | rfl <;> decide
theorem shl (x i : Nat) (hx : x < 128) (hi : i ≤ 5) : shw true .i64 (x : Int) (wr .i64 (7 * (i : Int))) = ((x * pw i : Nat) : Int) := by
 rw [wr_i (by omega) (by omega)]
 have hm : min (7 * (i : Int)).toNat 64 = 7 * i := by omega
 have h1 : x * pw i ≤ 127 * 34359738368 := Nat.mul_le_mul (by omega) (pw_le hi)
 unfold shw
 show IntKind.i64.wrap ((x : Int) * ((2 : Nat) : Int) ^ (min (7 * (i : Int)).toNat 64)) = _
 rw [hm, ← Int.natCast_pow, pw_eq hi, ← Int.natCast_mul]
 exact i64w (by omega) (by omega)
theorem orp (a x i : Nat) (ha : a < pw i) (hx : x < 128) (hi : i ≤ 5) : bitw .or .i64 (a : Int) ((x * pw i : Nat) : Int) = ((a + x * pw i : Nat) : Int) := by
 have key : ∀ k : Nat, pw i = 2 ^ k → a ||| (x * pw i) = a + x * pw i := by
  intro k hk
  rw [hk] at ha ⊢
  have e := Nat.two_pow_add_eq_or_of_lt (i := k) (b := a) ha x
  rw [Nat.or_comm, Nat.mul_comm x, ← e, Nat.add_comm]
 have hb := pw_le hi
 have hm : x * pw i ≤ 127 * 34359738368 := Nat.mul_le_mul (by omega) hb
 rw [or64 a _ (by omega) (by omega), key (7 * i) (pw_eq hi).symm]
theorem get_enc (R : List Int) : ∀ (n i acc : Nat), i ≤ 5 → acc < pw i → n < pw (6 - i) → (n > 0 ∨ i = 0) → acc + n * pw i ≤ 1099511627776 →
  m_num_Get_loop1 (enc n ++ R) i (acc : Int) = some (.inl (((acc + n * pw i : Nat) : Int), ((i + (enc n).length : Nat) : Int), 0)) := by
 intro n
 induction n using Nat.strongRecOn with
 | _ n ih =>
  intro i acc hi ha hn h0 hb
  have e7 : (0 : Int) ≤ wr .i64 (7 * (i : Int)) := by rw [wr_i (by omega) (by omega)]; omega
  by_cases h : n < 128
  ·rw [enc_lt h, List.singleton_append, m_num_Get_loop1, if_neg (by omega), if_pos e7, if_neg (by omega), and8 n (by omega), Nat.mod_eq_of_lt h, wr_i (by omega) (by omega), shl n i h hi, orp acc n i ha h hi]
   rw [if_pos (by omega), in_eq]
   simp only [Option.bind_some]
   rw [decide_eq_true (by omega), if_neg (by simp; omega), wr_i (by omega) (by omega)]
   simp
  ·have hq : n / 128 < n := by omega
   have hs : i ≤ 4 ∧ pw (i + 1) = 128 * pw i ∧ n / 128 < pw (6 - (i + 1)) := by
    rcases (by omega : i = 0 ∨ i = 1 ∨ i = 2 ∨ i = 3 ∨ i = 4 ∨ i = 5) with rfl | rfl | rfl | rfl | rfl | rfl
    ·exact ⟨by decide, rfl, by have k : n < 4398046511104 := hn; show n / 128 < 34359738368; omega⟩
    ·exact ⟨by decide, rfl, by have k : n < 34359738368 := hn; show n / 128 < 268435456; omega⟩
    ·exact ⟨by decide, rfl, by have k : n < 268435456 := hn; show n / 128 < 2097152; omega⟩
    ·exact ⟨by decide, rfl, by have k : n < 2097152 := hn; show n / 128 < 16384; omega⟩
    ·exact ⟨by decide, rfl, by have k : n < 16384 := hn; show n / 128 < 128; omega⟩
    ·exact absurd (show n < 128 from hn) h
   obtain ⟨hi4, hp, hn'⟩ := hs
   have hm : n % 128 < 128 := Nat.mod_lt _ (by decide)
   rw [enc_ge h, List.cons_append, m_num_Get_loop1, if_neg (by omega), if_pos e7, if_pos (by omega), and8 _ (by omega), Nat.add_mod_right, Nat.mod_mod, wr_i (by omega) (by omega), shl _ i hm hi, orp acc _ i ha hm hi]
   have hsum : acc + n % 128 * pw i + n / 128 * pw (i + 1) = acc + n * pw i := by
    rw [hp, Nat.add_assoc]
    congr 1
    rw [← Nat.mul_assoc, ← Nat.add_mul]
    congr 1
    omega
   have hacc : acc + n % 128 * pw i < pw (i + 1) := by
    rw [hp]
    have : n % 128 * pw i ≤ 127 * pw i := Nat.mul_le_mul (by omega) (Nat.le_refl _)
    omega
   rw [ih (n / 128) hq (i + 1) _ (by omega) hacc hn' (.inl (by omega)) (by omega), hsum]
   simp only [List.length_cons]
   congr 3
   congr 1
   omega
theorem Get_enc (R : List Int) (n : Nat) (h : n ≤ 1099511627776) : m_num_Get (enc n ++ R) = some ((n : Int), ((enc n).length : Int), 0) := by
 rw [m_num_Get]
 have := get_enc R n 0 0 (by omega) (by decide) (by show n < 4398046511104; omega) (.inr rfl) (by simp [pw]; omega)
 have e : ((0 : Nat) : Int) = 0 := rfl
 rw [e] at this
 rw [this]
 simp [pw]
theorem next_enc (R : List Int) (n : Nat) (b : Bool) (h : n ≤ 1099511627776) : m_record_Read_1 (enc n ++ R) b = some ((n : Int), R, b) := by
 rw [m_record_Read_1, Get_enc R n h]
 simp only [Option.bind_some]
 rw [if_pos ⟨by omega, by simp; omega⟩, Int.toNat_natCast, List.drop_left]
 simp
theorem toB_ofB (l : List UInt8) : toBytes (ofBytes l) = l := by
 induction l with
 | nil => rfl
 | cons x l ih =>
  show _ :: toBytes (ofBytes l) = _
  rw [ih]
  congr 1
  simp
theorem ofB_toB : ∀ (l : List Int), Bytes l → ofBytes (toBytes l) = l
 | [], _ => rfl
 | x :: l, h => by
  have hx := h x (List.mem_cons_self ..)
  show _ :: ofBytes (toBytes l) = _
  rw [ofB_toB l fun y hy => h y (List.mem_cons_of_mem _ hy)]
  congr 1
  have : (UInt8.ofNat x.toNat).toNat = x.toNat := by
   rw [UInt8.toNat_ofNat']
   omega
  simp only [this]
  omega
theorem ofB_len (l : List UInt8) : (ofBytes l).length = l.length := by simp [ofBytes]
theorem ofB_bytes (l : List UInt8) : Bytes (ofBytes l) := by
 intro x hx
 simp only [ofBytes, List.mem_map] at hx
 obtain ⟨y, _, rfl⟩ := hx
 have := y.toNat_lt
 omega
def encT (v : List UInt8) : List Int := enc v.length ++ ofBytes v
theorem Text_enc (v : List UInt8) (h : v.length ≤ 1024) : m_num_Text v = some (encT v, 0) := by
 have h1 := enc_len 1 v.length (by omega)
 rw [m_num_Text, if_neg (by omega), put_enc _ (by omega)]
 simp only [Option.bind_some]
 rw [if_pos (by rw [ofB_len]; omega)]; rfl
theorem GetText_enc (v : List UInt8) (h : v.length ≤ 1024) : m_num_GetText (encT v) = some (v, ((encT v).length : Int), 0) := by
 have h1 := enc_len 1 v.length (by omega)
 have hl : (encT v).length = (enc v.length).length + v.length := by unfold encT; rw [List.length_append, ofB_len]
 have hG : m_num_Get (encT v) = some ((v.length : Int), ((enc v.length).length : Int), 0) := Get_enc _ _ (by omega)
 rw [m_num_GetText, hG]
 simp only [Option.bind_some]
 rw [hl, wr_i (by omega) (by omega), if_neg (by simp; omega), wr_i (by omega) (by omega), if_pos ⟨by omega, by omega, by omega⟩]
 have e1 : (((enc v.length).length : Int) + (v.length : Int)).toNat = (encT v).length := by rw [hl]; omega
 rw [e1, List.take_length, Int.toNat_natCast]
 unfold encT
 rw [List.drop_left, toB_ofB]
 simp
theorem BOk.le {b : Int} (h : BOk b) (h1 : -9223372036854775808 ≤ b) (h2 : b ≤ 9223372036854775807) : b ≤ 8388613 := by
 have h3 := h.1
 have h4 := h.pos h1 h2
 rw [Int.tdiv_eq_ediv_of_nonneg (by omega), wr_i (by omega) (by omega)] at h3
 have h5 := h.2.2
 rw [Int.tmod_eq_emod_of_nonneg (by omega)] at h5
 omega
def recB (r : TRecord) : List Int := enc r.Kind.toNat ++ (enc r.Group.toNat ++ (enc r.Slot.toNat ++ ((if r.Kind = 1 ∨ r.Kind = 2 then enc r.Ballot.toNat else []) ++ (if r.Kind = 2 ∨ r.Kind = 3 then encT r.Value else []))))
theorem recB_bytes (r : TRecord) : Bytes (recB r) := by
 unfold recB
 refine (enc_bytes _).app ((enc_bytes _).app ((enc_bytes _).app (Bytes.app ?_ ?_)))
 ·split
  ·exact enc_bytes _
  ·intro x hx; cases hx
 ·split
  ·exact (enc_bytes _).app (ofB_bytes _)
  ·intro x hx; cases hx
def InR (r : TRecord) : Prop := -9223372036854775808 ≤ r.Ballot ∧ r.Ballot ≤ 9223372036854775807
theorem RecOk.nums {r : TRecord} (h : RecOk r) (hr : InR r) : ∃ k g s b : Nat, r.Kind = k ∧ r.Group = g ∧ r.Slot = s ∧ r.Ballot = b ∧ 1 ≤ k ∧ k ≤ 3 ∧ g < 4 ∧ s ≤ 200 ∧ b ≤ 8388613 := by
 obtain ⟨⟨g1, g2⟩, ⟨s1, s2⟩, hv, hk⟩ := h
 refine ⟨r.Kind.toNat, r.Group.toNat, r.Slot.toNat, r.Ballot.toNat, ?_⟩
 rcases hk with ⟨k, b, _⟩ | ⟨k, b⟩ | ⟨k, b⟩
 ·have := b.pos hr.1 hr.2; have := b.le hr.1 hr.2; omega
 ·have := b.pos hr.1 hr.2; have := b.le hr.1 hr.2; omega
 ·omega
theorem write1 (a c : List Int) (h : c.length + a.length < 1000000) : m_record_Write_1 a 0 c 0 = some (c ++ a, 0) := by
 rw [m_record_Write_1, if_pos h, if_pos rfl]
theorem write_eq (r : TRecord) (h : RecOk r) (hr : InR r) : m_record_Write r = some (toBytes (recB r), 0) := by
 obtain ⟨k, g, s, b, ek, eg, es, eb, k1, k2, g2, s2, b2⟩ := h.nums hr
 have hv := h.2.2.1
 have l1 := enc_len 0 k (by omega)
 have l2 := enc_len 0 g (by omega)
 have l3 := enc_len 1 s (by omega)
 have l4 := enc_len 3 b (by omega)
 have l5 : (encT r.Value).length ≤ 1100 := by
  have := enc_len 1 r.Value.length (by omega)
  unfold encT
  rw [List.length_append, ofB_len]; omega
 have wk : wr .i64 r.Kind = (k : Int) := by rw [ek]; exact wr_i (by omega) (by omega)
 have hrec : recB r = enc k ++ (enc g ++ (enc s ++ ((if r.Kind = 1 ∨ r.Kind = 2 then enc b else []) ++ (if r.Kind = 2 ∨ r.Kind = 3 then encT r.Value else [])))) := by
  unfold recB
  rw [ek, eg, es, eb]
  simp only [Int.toNat_natCast]
 rw [m_record_Write, rcheck_eq, if_pos h]
 simp only [Option.bind_some]
 rw [if_neg (by simp), wk, Put_enc k (by omega)]
 simp only [Option.bind_some]
 rw [write1 _ _ (by simp; omega)]
 simp only [Option.bind_some]
 rw [eg, Put_enc g (by omega)]
 simp only [Option.bind_some]
 rw [write1 _ _ (by simp; omega)]
 simp only [Option.bind_some]
 rw [es, Put_enc s (by omega)]
 simp only [Option.bind_some]
 rw [write1 _ _ (by simp; omega)]
 simp only [Option.bind_some]
 rw [has_eq, eb, Put_enc b (by omega), Text_enc _ hv]
 simp only [Option.bind_some]
 rw [hrec]
 rcases (by omega : k = 1 ∨ k = 2 ∨ k = 3) with rfl | rfl | rfl
 ·rw [ek]
  simp
  rw [write1 _ _ (by simp; omega)]
  simp
 ·rw [ek]
  simp
  rw [write1 _ _ (by simp; omega)]
  simp
  rw [write1 _ _ (by simp; omega)]
  simp
 ·rw [ek]
  simp
  rw [write1 _ _ (by simp; omega)]
  simp
theorem read_eq (r : TRecord) (h : RecOk r) (hr : InR r) : m_record_Read (toBytes (recB r)) = some (r, 0) := by
 obtain ⟨k, g, s, b, ek, eg, es, eb, k1, k2, g2, s2, b2⟩ := h.nums hr
 have hv := h.2.2.1
 have hk4 := h.2.2.2
 have hrec : recB r = enc k ++ (enc g ++ (enc s ++ ((if r.Kind = 1 ∨ r.Kind = 2 then enc b else []) ++ (if r.Kind = 2 ∨ r.Kind = 3 then encT r.Value else [])))) := by
  unfold recB
  rw [ek, eg, es, eb]
  simp only [Int.toNat_natCast]
 have wk : wr .u8 (bitw .and .i64 (k : Int) 255) = (k : Int) := by rw [and255 k (by omega), Nat.mod_eq_of_lt (by omega), wr8 (by omega)]
 rw [m_record_Read, ofB_toB _ (recB_bytes r), hrec, next_enc _ k _ (by omega)]
 simp only [Option.bind_some]
 rw [next_enc _ g _ (by omega)]
 simp only [Option.bind_some]
 rw [next_enc _ s _ (by omega)]
 simp only [Option.bind_some]
 rw [wk, has_eq]
 simp only [Option.bind_some]
 have hfin : ∀ (kk bal : Int) (v : List UInt8), kk = r.Kind → bal = r.Ballot → v = r.Value → (⟨kk, (g : Int), (s : Int), bal, v⟩ : TRecord) = r := by
  rintro _ _ _ rfl rfl rfl
  rw [← eg, ← es]
 rcases hk4 with ⟨q, qb, qv⟩ | ⟨q, qb⟩ | ⟨q, qb⟩
 ·have : k = 1 := by omega
  subst this
  rw [q]
  have e1 := next_enc [] b false (by omega)
  rw [List.append_nil] at e1
  simp only [Int.reduceEq, or_false, true_or, or_self, if_true, if_false, List.append_nil]
  rw [e1]
  simp
  rw [hfin 1 b [] q.symm eb.symm qv.symm, rcheck_eq, if_pos h]
  simp
 ·have : k = 2 := by omega
  subst this
  rw [q]
  have e1 := next_enc (encT r.Value) b false (by omega)
  simp only [Int.reduceEq, or_false, true_or, or_true, or_self, if_true, if_false, List.append_nil]
  rw [e1]
  simp [GetText_enc _ hv]
  rw [hfin 2 b r.Value q.symm eb.symm rfl, rcheck_eq, if_pos h]
  simp
 ·have : k = 3 := by omega
  subst this
  rw [q]
  simp only [Int.reduceEq, or_false, or_true, or_self, if_true, if_false, List.nil_append]
  simp [GetText_enc _ hv]
  rw [hfin 3 0 r.Value q.symm qb.symm rfl, rcheck_eq, if_pos h]
  simp
def txt (r : TRecord) : List UInt8 := toBytes (recB r)
theorem rd_txt (r : TRecord) (h : RecOk r) (hr : InR r) : rd (txt r) = (r, 0) := by
 unfold rd txt
 rw [read_eq r h hr]; rfl
theorem txt_len (r : TRecord) (h : RecOk r) (hr : InR r) : (txt r).length ≤ 2000 := by
 obtain ⟨k, g, s, b, ek, eg, es, eb, k1, k2, g2, s2, b2⟩ := h.nums hr
 have hv := h.2.2.1
 have l1 := enc_len 0 k (by omega)
 have l2 := enc_len 0 g (by omega)
 have l3 := enc_len 1 s (by omega)
 have l4 := enc_len 3 b (by omega)
 have l5 : (encT r.Value).length ≤ 1100 := by
  have := enc_len 1 r.Value.length (by omega)
  unfold encT
  rw [List.length_append, ofB_len]; omega
 unfold txt toBytes recB
 rw [ek, eg, es, eb]
 simp only [Int.toNat_natCast, List.length_map, List.length_append]
 split <;> split <;> simp <;> omega
end Go.Proofs
end
section
namespace Go.Proofs
open Go.Tm
set_option linter.unusedSimpArgs false
theorem image1 (r : TRecord) (h : RecOk r) (hr : InR r) (l : Txts) (hl : l.length + 1 < 1000000) : m_stable_Image_1 r l = some (l ++ [txt r]) := by
 rw [m_stable_Image_1, write_eq r h hr]
 simp only [Option.bind_some]
 rw [if_pos (by simpa using hl)]; rfl
def decs (g : Nat) : Nat → Txts → List TRecord
 | _, [] => []
 | i, v :: r => ⟨3, g, ((i + 1 : Nat) : Int), 0, v⟩ :: decs g (i + 1) r
def allDecs : Nat → List Txts → List TRecord
 | _, [] => []
 | g, y :: r => decs g 0 y ++ allDecs (g + 1) r
def vrecs (v : TSeen) : List TRecord := (if v.Vote.Ballot > 0 then [⟨2, v.Group, v.Slot, v.Vote.Ballot, v.Vote.Value⟩] else []) ++ (if v.Vote.Promised > v.Vote.Ballot then [⟨1, v.Group, v.Slot, v.Vote.Promised, []⟩] else [])
theorem decs_len (g : Nat) : ∀ (y : Txts) (i : Nat), (decs g i y).length = y.length
 | [], _ => rfl
 | v :: r, i => by simp only [decs, List.length_cons, decs_len g r (i + 1)]
def total (L : List Txts) : Nat := (L.map List.length).sum
theorem allDecs_len : ∀ (L : List Txts) (g : Nat), (allDecs g L).length = total L
 | [], _ => rfl
 | y :: r, g => by simp only [allDecs, List.length_append, decs_len, allDecs_len r (g + 1), total, List.map_cons, List.sum_cons]
theorem dec_ok {g i : Nat} {v : List UInt8} (hg : g < 4) (hi : i < 200) (hv : v.length ≤ 1024) : RecOk ⟨3, g, ((i + 1 : Nat) : Int), 0, v⟩ ∧ InR ⟨3, g, ((i + 1 : Nat) : Int), 0, v⟩ :=
 ⟨⟨⟨by dsimp only; omega, by dsimp only; omega⟩, ⟨by dsimp only; omega, by dsimp only; omega⟩, hv, .inr (.inr ⟨rfl, rfl⟩)⟩, by unfold InR; simp⟩
def RngV (v : TSeen) : Prop := (-9223372036854775808 ≤ v.Vote.Promised ∧ v.Vote.Promised ≤ 9223372036854775807) ∧ (-9223372036854775808 ≤ v.Vote.Ballot ∧ v.Vote.Ballot ≤ 9223372036854775807)
theorem bal_pos {v : TSeen} (h : VOk v.Vote) (_ : RngV v) (h0 : v.Vote.Ballot > 0) : BOk v.Vote.Ballot ∧ v.Vote.Ballot ≤ v.Vote.Promised ∧ v.Vote.Value.length ≤ 1024 := by
 have := h.2
 rw [if_neg (by omega)] at this
 exact this
theorem bal_zero {v : TSeen} (h : VOk v.Vote) (hr : RngV v) (h0 : ¬ v.Vote.Ballot > 0) : v.Vote.Ballot = 0 ∧ v.Vote.Value = [] := by
 have := h.2
 by_cases hz : v.Vote.Ballot = 0
 ·rw [if_pos hz] at this; exact ⟨hz, this⟩
 ·rw [if_neg hz] at this
  have := this.1.pos hr.2.1 hr.2.2
  omega
theorem prom_ok {L : List Txts} {v : TSeen} (h : SeenOk L v) (hr : RngV v) : BOk v.Vote.Promised ∧ 8 ≤ v.Vote.Promised := by
 have hb : BOk v.Vote.Promised := h.2.2.2.2.1.resolve_left h.2.2.2.1
 exact ⟨hb, hb.pos hr.1.1 hr.1.2⟩
theorem acc_ok {L : List Txts} {v : TSeen} (hL : L.length ≤ 4) (h : SeenOk L v) (hr : RngV v) (h0 : v.Vote.Ballot > 0) : RecOk ⟨2, v.Group, v.Slot, v.Vote.Ballot, v.Vote.Value⟩ ∧ InR ⟨2, v.Group, v.Slot, v.Vote.Ballot, v.Vote.Value⟩ := by
 obtain ⟨b1, b2, b3⟩ := bal_pos h.2.2.2.2 hr h0
 have h1 := h.1
 have h2 := h.2.1
 have h3 := h.2.2.1
 exact ⟨⟨⟨h1.1, by dsimp only; omega⟩, ⟨by dsimp only; omega, h3⟩, b3, .inr (.inl ⟨rfl, b1⟩)⟩, hr.2⟩
theorem pro_ok {L : List Txts} {v : TSeen} (hL : L.length ≤ 4) (h : SeenOk L v) (hr : RngV v) : RecOk ⟨1, v.Group, v.Slot, v.Vote.Promised, []⟩ ∧ InR ⟨1, v.Group, v.Slot, v.Vote.Promised, []⟩ := by
 obtain ⟨b1, b2⟩ := prom_ok h hr
 have h1 := h.1
 have h2 := h.2.1
 have h3 := h.2.2.1
 exact ⟨⟨⟨h1.1, by dsimp only; omega⟩, ⟨by dsimp only; omega, h3⟩, by simp, .inl ⟨rfl, b1, rfl⟩⟩, hr.1⟩
theorem im_loop2 (a0 : TStable) (g : Nat) (hg : g < 4) : ∀ (y : Txts) (i fu : Nat) (l : Txts), (a0.Logs.getD g default).drop i = y → (a0.Logs.getD g default).length ≤ 200 → (∀ v ∈ y, v.length ≤ 1024) → y.length < fu → l.length + y.length < 900000 →
  m_stable_Image_loop2 a0 (g : Int) fu l (i : Int) = some (l ++ (decs g i y).map txt)
 | _, _, 0, _, _, _, _, h, _ => absurd h (Nat.not_lt_zero _)
 | [], i, fu + 1, l, hd, h2, _, _, _ => by
  have : (a0.Logs.getD g default).length ≤ i := by
   have := congrArg List.length hd
   simp only [List.length_drop, List.length_nil] at this
   omega
  rw [m_stable_Image_loop2]
  simp only [Int.toNat_natCast]
  rw [if_neg (by omega)]
  simp [decs]
 | v :: y, i, fu + 1, l, hd, h2, hv, hf, hl => by
  have hi : i < (a0.Logs.getD g default).length := by
   rcases Nat.lt_or_ge i (a0.Logs.getD g default).length with h | h
   ·exact h
   ·rw [List.drop_of_length_le h] at hd; cases hd
  have hd' := hd
  rw [List.drop_eq_getElem_cons hi] at hd'
  obtain ⟨e1, e2⟩ := List.cons.inj hd'
  have eg : (a0.Logs.getD g default).getD i default = v := by
   rw [List.getD_eq_getElem?_getD, List.getElem?_eq_getElem hi, e1]; rfl
  simp only [List.length_cons] at hf hl
  obtain ⟨k1, k2⟩ := dec_ok (g := g) (i := i) hg (by omega) (hv v (List.mem_cons_self ..))
  have ew : wr .i64 ((i : Int) + 1) = ((i + 1 : Nat) : Int) := by rw [wr_i (by omega) (by omega)]; omega
  rw [m_stable_Image_loop2]
  simp only [Int.toNat_natCast]
  rw [if_pos (by omega), if_pos ⟨by omega, by omega⟩, ew, eg, image1 _ k1 k2 l (by omega)]
  simp only [Option.bind_some]
  rw [im_loop2 a0 g hg y (i + 1) fu _ e2 h2 (fun x hx => hv x (List.mem_cons_of_mem _ hx)) (by omega) (by simp; omega)]
  simp only [decs, List.map_cons, List.append_assoc, List.singleton_append]
theorem im_loop1 (a0 : TStable) (hs : SOk a0) : ∀ (L : List Txts) (g fu : Nat) (l : Txts), a0.Logs.drop g = L → L.length < fu → l.length + 200 * L.length < 800000 →
  m_stable_Image_loop1 a0 fu l (g : Int) = some (l ++ (allDecs g L).map txt)
 | _, _, 0, _, _, h, _ => absurd h (Nat.not_lt_zero _)
 | [], g, fu + 1, l, hd, _, _ => by
  have : a0.Logs.length ≤ g := by
   have := congrArg List.length hd
   simp only [List.length_drop, List.length_nil] at this
   omega
  rw [m_stable_Image_loop1, if_neg (by omega)]
  simp [allDecs]
 | y :: L, g, fu + 1, l, hd, hf, hl => by
  have hg : g < a0.Logs.length := by
   rcases Nat.lt_or_ge g a0.Logs.length with h | h
   ·exact h
   ·rw [List.drop_of_length_le h] at hd; cases hd
  have hd' := hd
  rw [List.drop_eq_getElem_cons hg] at hd'
  obtain ⟨e1, e2⟩ := List.cons.inj hd'
  have eg : a0.Logs.getD g default = y := by
   rw [List.getD_eq_getElem?_getD, List.getElem?_eq_getElem hg, e1]; rfl
  have hn := hs.n.2
  have hy : LogOk y := hs.l y (by rw [← e1]; exact List.getElem_mem hg)
  simp only [List.length_cons] at hf hl
  have ew : wr .i64 ((g : Int) + 1) = ((g + 1 : Nat) : Int) := by rw [wr_i (by omega) (by omega)]; omega
  have hy1 := hy.1
  have i2 := im_loop2 a0 g (by omega) y 0 1000001 l (by rw [eg]; rfl) (by rw [eg]; exact hy.1) hy.2 (by omega) (by omega)
  have z : ((0 : Nat) : Int) = 0 := rfl
  rw [z] at i2
  rw [m_stable_Image_loop1, if_pos (by omega), if_pos ⟨by omega, by omega⟩, i2]
  simp only [Option.bind_some]
  have hdl := decs_len g y 0
  rw [ew, im_loop1 a0 hs L (g + 1) fu _ e2 (by omega) (by simp [hdl]; omega)]
  simp only [allDecs, List.map_append, List.append_assoc]
theorem vrecs_len {L : List Txts} {v : TSeen} (h : SeenOk L v) (hr : RngV v) : 1 ≤ (vrecs v).length ∧ (vrecs v).length ≤ 2 := by
 unfold vrecs
 have hp := (prom_ok h hr).2
 by_cases h0 : v.Vote.Ballot > 0
 ·rw [if_pos h0]
  split <;> simp
 ·have := (bal_zero h.2.2.2.2 hr h0).1
  rw [if_neg h0, if_pos (by omega)]
  simp
theorem im_loop3 (a0 : TStable) (hs : SOk a0) (hr : ∀ v ∈ a0.Votes, RngV v) (hV : a0.Votes.length ≤ 10000) : ∀ (V : List TSeen) (k fu : Nat) (l : Txts), a0.Votes.drop k = V → V.length < fu → l.length + 2 * V.length < 900000 →
  m_stable_Image_loop3 a0 fu l (k : Int) = some (l ++ (V.flatMap vrecs).map txt)
 | _, _, 0, _, _, h, _ => absurd h (Nat.not_lt_zero _)
 | [], k, fu + 1, l, hd, _, _ => by
  have : a0.Votes.length ≤ k := by
   have := congrArg List.length hd
   simp only [List.length_drop, List.length_nil] at this
   omega
  rw [m_stable_Image_loop3, if_neg (by omega)]
  simp
 | v :: V, k, fu + 1, l, hd, hf, hl => by
  have hk : k < a0.Votes.length := by
   rcases Nat.lt_or_ge k a0.Votes.length with h | h
   ·exact h
   ·rw [List.drop_of_length_le h] at hd; cases hd
  have hd' := hd
  rw [List.drop_eq_getElem_cons hk] at hd'
  obtain ⟨e1, e2⟩ := List.cons.inj hd'
  have eg : a0.Votes.getD k default = v := by
   rw [List.getD_eq_getElem?_getD, List.getElem?_eq_getElem hk, e1]; rfl
  have hm : v ∈ a0.Votes := by rw [← e1]; exact List.getElem_mem hk
  have hS := hs.v v hm
  have hR := hr v hm
  simp only [List.length_cons] at hf hl
  have ew : wr .i64 ((k : Int) + 1) = ((k + 1 : Nat) : Int) := by rw [wr_i (by omega) (by omega)]; omega
  rw [m_stable_Image_loop3, if_pos (by omega), if_pos ⟨by omega, by omega⟩]
  simp only [Int.toNat_natCast, eg]
  have hvl := (vrecs_len hS hR).2
  have step : ∀ l8 : Txts, l8 = l ++ (if v.Vote.Ballot > 0 then [(⟨2, v.Group, v.Slot, v.Vote.Ballot, v.Vote.Value⟩ : TRecord)] else []).map txt → (if v.Vote.Promised > v.Vote.Ballot then
    Option.bind (m_stable_Image_1 (⟨1, v.Group, v.Slot, v.Vote.Promised, []⟩ : TRecord) l8) fun v4 => some v4 else some l8) = some (l ++ (vrecs v).map txt) := by
   rintro l8 rfl
   obtain ⟨p1, p2⟩ := pro_ok hs.n.2 hS hR
   unfold vrecs
   by_cases hp : v.Vote.Promised > v.Vote.Ballot
   ·rw [if_pos hp, if_pos hp, image1 _ p1 p2 _ (by rw [List.length_append, List.length_map]; split <;> simp <;> omega)]
    simp only [Option.bind_some, List.map_append, List.append_assoc, List.map_cons, List.map_nil]
   ·rw [if_neg hp, if_neg hp, List.append_nil]
  have first : (Option.bind (α := (List (List UInt8))) (if v.Vote.Ballot > 0 then
    Option.bind (m_stable_Image_1 (⟨2, v.Group, v.Slot, v.Vote.Ballot, v.Vote.Value⟩ : TRecord) l) fun v3 => some v3 else some l) fun l8 =>
    if v.Vote.Promised > v.Vote.Ballot then
    Option.bind (m_stable_Image_1 (⟨1, v.Group, v.Slot, v.Vote.Promised, []⟩ : TRecord) l8) fun v4 => some v4 else some l8) = some (l ++ (vrecs v).map txt) := by
   by_cases h0 : v.Vote.Ballot > 0
   ·obtain ⟨a1, a2⟩ := acc_ok hs.n.2 hS hR h0
    rw [if_pos h0, image1 _ a1 a2 l (by omega)]
    simp only [Option.bind_some]
    exact step _ (by rw [if_pos h0]; rfl)
   ·rw [if_neg h0]
    simp only [Option.bind_some]
    exact step _ (by rw [if_neg h0]; simp)
  refine (congrArg (fun o => Option.bind o _) first).trans ?_
  rw [Option.bind_some, ew, im_loop3 a0 hs hr hV V (k + 1) fu _ e2 (by omega) (by simp; omega)]
  simp only [List.flatMap_cons, List.map_append, List.append_assoc]
def recsOf (s : TStable) : List TRecord := allDecs 0 s.Logs ++ s.Votes.flatMap vrecs
theorem total_le : ∀ (L : List Txts), (∀ l ∈ L, LogOk l) → total L ≤ 200 * L.length
 | [], _ => by simp [total]
 | y :: L, h => by
  have := total_le L fun l hl => h l (List.mem_cons_of_mem _ hl)
  have := (h y (List.mem_cons_self ..)).1
  simp only [total, List.map_cons, List.sum_cons, List.length_cons] at *
  omega
theorem image_eq (s : TStable) (hs : SOk s) (hr : ∀ v ∈ s.Votes, RngV v) (hV : s.Votes.length ≤ 10000) : m_stable_Image s = some ((recsOf s).map txt, 0) := by
 have hn := hs.n
 have ht := total_le s.Logs hs.l
 have hal := allDecs_len s.Logs 0
 have i1 := im_loop1 s hs s.Logs 0 (s.Logs.length + 1) [] rfl (by omega) (by simp; omega)
 have i3 := im_loop3 s hs hr hV s.Votes 0 (s.Votes.length + 1) ([] ++ (allDecs 0 s.Logs).map txt) rfl (by omega) (by simp [hal]; omega)
 have z : ((0 : Nat) : Int) = 0 := rfl
 rw [z] at i1 i3
 rw [m_stable_Image, check_eq, if_pos hs]
 simp only [Option.bind_some]
 rw [if_neg (by simp), i1]
 simp only [Option.bind_some]
 rw [i3]
 simp only [Option.bind_some, List.nil_append, recsOf, List.map_append]
theorem fold_rec {s : TStable} {r : TRecord} (h : RecOk r) (hr : InR r) (h0 : putE s r = 0) (l : Txts) : foldS s (txt r :: l) = foldS (putS s r) l := by
 have e : stS s (txt r) = (putS s r, 0) := by
  unfold stS
  rw [rd_txt r h hr]
  simp only
  rw [if_pos trivial, if_pos h0]
 rw [foldS, e, if_pos rfl]
theorem getD_mid (A B : List Txts) (x : Txts) : (A ++ x :: B).getD A.length default = x := by
 rw [List.getD_eq_getElem?_getD, List.getElem?_append_right (Nat.le_refl _), Nat.sub_self]; rfl
theorem fold_decs (D R : List Txts) (T : Txts) (hD : D.length < 4) : ∀ (ys acc : Txts), acc.length + ys.length ≤ 200 → (∀ v ∈ ys, v.length ≤ 1024) →
  foldS ⟨D ++ acc :: R, []⟩ ((decs D.length acc.length ys).map txt ++ T) = foldS ⟨D ++ (acc ++ ys) :: R, []⟩ T
 | [], acc, _, _ => by simp [decs]
 | v :: ys, acc, h, hv => by
  simp only [List.length_cons] at h
  obtain ⟨k1, k2⟩ := dec_ok (g := D.length) (i := acc.length) hD (by omega) (hv v (List.mem_cons_self ..))
  have eL : logAt ⟨D ++ acc :: R, []⟩ (D.length : Int) = acc := by unfold logAt; rw [Int.toNat_natCast]; exact getD_mid D R acc
  have hN : newV ⟨D ++ acc :: R, []⟩ ⟨3, (D.length : Int), ((acc.length + 1 : Nat) : Int), 0, v⟩ = (zV, 0) := rfl
  have h0 : putE ⟨D ++ acc :: R, []⟩ ⟨3, (D.length : Int), ((acc.length + 1 : Nat) : Int), 0, v⟩ = 0 := by
   unfold putE
   rw [hN]
   simp only [eL]
   rw [if_neg (by simp; omega), if_neg (by omega)]
  have hP : putS ⟨D ++ acc :: R, []⟩ ⟨3, (D.length : Int), ((acc.length + 1 : Nat) : Int), 0, v⟩ = ⟨D ++ (acc ++ [v]) :: R, []⟩ := by
   unfold putS
   rw [hN]
   simp only [eL, if_true, Int.toNat_natCast]
   congr 1
   simp
  have ih := fold_decs D R T hD ys (acc ++ [v]) (by simp; omega) (fun x hx => hv x (List.mem_cons_of_mem _ hx))
  rw [List.length_append, List.length_singleton, List.append_assoc] at ih
  simp only [decs, List.map_cons, List.cons_append]
  rw [fold_rec k1 k2 h0, hP]
  exact ih
theorem fold_all (T : Txts) : ∀ (ys D : List Txts), D.length + ys.length ≤ 4 → (∀ l ∈ ys, LogOk l) →
  foldS ⟨D ++ List.replicate ys.length [], []⟩ ((allDecs D.length ys).map txt ++ T) = foldS ⟨D ++ ys, []⟩ T
 | [], D, _, _ => by simp [allDecs]
 | y :: ys, D, h, hl => by
  simp only [List.length_cons] at h
  have hy := hl y (List.mem_cons_self ..)
  have h1 := fold_decs D (List.replicate ys.length []) ((allDecs (D.length + 1) ys).map txt ++ T) (by omega) y [] (by simpa using hy.1) hy.2
  have h2 := fold_all T ys (D ++ [y]) (by simp; omega) (fun l hl' => hl l (List.mem_cons_of_mem _ hl'))
  rw [List.length_append, List.length_singleton, List.append_assoc, List.append_assoc] at h2
  simp only [List.length_cons, List.replicate_succ, allDecs, List.map_append, List.append_assoc]
  rw [List.length_nil, List.nil_append] at h1
  rw [h1]
  exact h2
theorem vote_new {P : List TSeen} {x : TSeen} (h : ∀ y ∈ P, ltP y x) : voteAt P x.Group x.Slot = zV := by
 unfold voteAt
 have : P.find? (fun y => decide (y.Group = x.Group ∧ y.Slot = x.Slot)) = none := by
  rw [List.find?_eq_none]
  intro y hy
  have := h y hy
  simp only [decide_eq_true_eq]
  unfold ltP at this
  omega
 rw [this]; rfl
theorem bef_all {P : List TSeen} {x : TSeen} (h : ∀ y ∈ P, ltP y x) : bef x P = P ∧ aft x P = [] := by
 constructor
 ·unfold bef
  rw [List.filter_eq_self]
  exact fun y hy => by simpa using h y hy
 ·unfold aft
  rw [List.filter_eq_nil_iff]
  exact fun y hy => by simpa using ltP_asym (h y hy)
theorem with_end {P : List TSeen} {x : TSeen} (h : ∀ y ∈ P, ltP y x) (hz : x.Vote ≠ zV) : withV P x = P ++ [x] := by
 unfold withV
 rw [(bef_all h).1, (bef_all h).2, if_neg hz]; rfl
theorem with_last {P : List TSeen} {x x' : TSeen} (h : ∀ y ∈ P, ltP y x) (hs : x'.Group = x.Group ∧ x'.Slot = x.Slot) (hz : x'.Vote ≠ zV) : withV (P ++ [x]) x' = P ++ [x'] := by
 have h' : ∀ y ∈ P, ltP y x' := fun y hy => by have := h y hy; unfold ltP at *; omega
 have n1 : ¬ ltP x x' := by unfold ltP; omega
 have n2 : ¬ ltP x' x := by unfold ltP; omega
 have e1 : bef x' (P ++ [x]) = P := by
  have := (bef_all h').1
  unfold bef at *
  rw [List.filter_append, this]
  simp [n1]
 have e2 : aft x' (P ++ [x]) = [] := by
  have := (bef_all h').2
  unfold aft at *
  rw [List.filter_append, this]
  simp [n2]
 unfold withV
 rw [e1, e2, if_neg hz]; rfl
theorem VOk.z : VOk zV := ⟨.inl rfl, by rfl⟩
theorem put_vote {L : List Txts} {P : List TSeen} {k g sl b : Int} {val : List UInt8} {w : TVote} (hg : 0 ≤ g ∧ g < (L.length : Int)) (hs : ((L.getD g.toNat default).length : Int) < sl) (hk : k = 1 ∨ k = 2) (hn : newV ⟨L, P⟩ ⟨k, g, sl, b, val⟩ = (w, 0)) :
  putE ⟨L, P⟩ ⟨k, g, sl, b, val⟩ = 0 ∧ putS ⟨L, P⟩ ⟨k, g, sl, b, val⟩ = ⟨L, withV P ⟨g, sl, w⟩⟩ := by
 constructor
 ·unfold putE
  rw [hn]
  unfold logAt
  simp only
  rw [if_neg (by omega), if_neg (by omega)]
 ·unfold putS
  rw [hn]
  simp only
  rw [if_neg (by omega)]
theorem fold_votes (L : List Txts) (hL : L.length ≤ 4) (T : Txts) : ∀ (V P : List TSeen), Up (P ++ V) → (∀ v ∈ V, SeenOk L v) → (∀ v ∈ V, RngV v) →
  foldS ⟨L, P⟩ ((V.flatMap vrecs).map txt ++ T) = foldS ⟨L, P ++ V⟩ T
 | [], P, _, _, _ => by simp
 | v :: V, P, hu, hs, hr => by
  have hS := hs v (List.mem_cons_self ..)
  have hR := hr v (List.mem_cons_self ..)
  have hlt : ∀ y ∈ P, ltP y v := fun y hy => (List.pairwise_append.1 hu).2.2 y hy v (List.mem_cons_self ..)
  have ih := fold_votes L hL T V (P ++ [v]) (by rw [List.append_assoc]; exact hu) (fun x hx => hs x (List.mem_cons_of_mem _ hx)) (fun x hx => hr x (List.mem_cons_of_mem _ hx))
  rw [List.append_assoc] at ih
  refine Eq.trans ?_ ih
  simp only [List.flatMap_cons, List.map_append, List.append_assoc]
  obtain ⟨g, sl, pr, ba, va⟩ := v
  obtain ⟨pb, p8⟩ := prom_ok hS hR
  obtain ⟨q1, q2⟩ := pro_ok hL hS hR
  have hv0 : voteAt P g sl = zV := vote_new hlt
  obtain ⟨h1, h2, h3, h4, h5⟩ := hS
  simp only at pb p8 h1 h2 h3 h4 h5 q1 q2
  unfold vrecs
  simp only
  by_cases h0 : ba > 0
  ·obtain ⟨b1, b2, b3⟩ := bal_pos h5 hR h0
   obtain ⟨a1, a2⟩ := acc_ok hL ⟨h1, h2, h3, h4, h5⟩ hR h0
   simp only at b1 b2 b3 a1 a2
   have hask : askE zV ba va = 0 := askE_0.2 ⟨VOk.z, b1, b3, by show (0 : Int) ≤ ba; omega⟩
   have hN : newV ⟨L, P⟩ ⟨2, g, sl, ba, va⟩ = (⟨ba, ba, va⟩, 0) := by
    unfold newV
    simp only [hv0]
    rw [if_neg (by decide), if_pos trivial, if_pos hask, hask]
   obtain ⟨k1, k2⟩ := put_vote h1 h2 (.inr rfl) hN
   have hnz : (⟨ba, ba, va⟩ : TVote) ≠ zV := fun e => by have := congrArg TVote.Promised e; simp only [zV] at this; omega
   rw [with_end (x := ⟨g, sl, ⟨ba, ba, va⟩⟩) hlt hnz] at k2
   rw [if_pos h0]
   simp only [List.map_cons, List.map_nil, List.cons_append, List.nil_append]
   rw [fold_rec a1 a2 k1, k2]
   by_cases hp : pr > ba
   ·have hv1 : voteAt (P ++ [⟨g, sl, ⟨ba, ba, va⟩⟩]) g sl = ⟨ba, ba, va⟩ := by
     have := voteAt_with P ⟨g, sl, ⟨ba, ba, va⟩⟩
     rw [with_end (x := ⟨g, sl, ⟨ba, ba, va⟩⟩) hlt hnz] at this
     exact this
    have hask2 : askE ⟨ba, ba, va⟩ pr [] = 0 := askE_0.2 ⟨VOk.acc (askE_0.1 hask), pb, by simp, by simp only; omega⟩
    have hN2 : newV ⟨L, P ++ [⟨g, sl, ⟨ba, ba, va⟩⟩]⟩ ⟨1, g, sl, pr, []⟩ = (⟨pr, ba, va⟩, 0) := by
     unfold newV
     simp only [hv1]
     rw [if_pos trivial, if_pos hask2, hask2]
    obtain ⟨m1, m2⟩ := put_vote h1 h2 (.inl rfl) hN2
    have hnz2 : (⟨pr, ba, va⟩ : TVote) ≠ zV := fun e => by have := congrArg TVote.Promised e; simp only [zV] at this; omega
    rw [with_last (x := ⟨g, sl, ⟨ba, ba, va⟩⟩) (x' := ⟨g, sl, ⟨pr, ba, va⟩⟩) hlt ⟨rfl, rfl⟩ hnz2] at m2
    rw [if_pos hp]
    simp only [List.map_cons, List.map_nil, List.cons_append, List.nil_append]
    rw [fold_rec q1 q2 m1, m2]
   ·have : pr = ba := by omega
    subst this
    rw [if_neg hp]
    simp only [List.map_nil, List.nil_append]
  ·obtain ⟨z1, z2⟩ := bal_zero h5 hR h0
   simp only at z1 z2
   subst z1
   subst z2
   have hask2 : askE zV pr [] = 0 := askE_0.2 ⟨VOk.z, pb, by simp, by show (0 : Int) ≤ pr; omega⟩
   have hN2 : newV ⟨L, P⟩ ⟨1, g, sl, pr, []⟩ = (⟨pr, 0, []⟩, 0) := by
    unfold newV
    simp only [hv0]
    rw [if_pos trivial, if_pos hask2, hask2]
    rfl
   obtain ⟨m1, m2⟩ := put_vote h1 h2 (.inl rfl) hN2
   have hnz2 : (⟨pr, 0, []⟩ : TVote) ≠ zV := fun e => by have := congrArg TVote.Promised e; simp only [zV] at this; omega
   rw [with_end (x := ⟨g, sl, ⟨pr, 0, []⟩⟩) hlt hnz2] at m2
   rw [if_neg h0, if_pos (by omega)]
   simp only [List.map_cons, List.map_nil, List.cons_append, List.nil_append]
   rw [fold_rec q1 q2 m1, m2]
theorem fold_image (s : TStable) (hs : SOk s) (hr : ∀ v ∈ s.Votes, RngV v) : foldS (newS (s.Logs.length : Int)) ((recsOf s).map txt) = (s, 0) := by
 have h1 := fold_all ((s.Votes.flatMap vrecs).map txt) s.Logs [] (by simpa using hs.n.2) hs.l
 have h2 := fold_votes s.Logs hs.n.2 [] s.Votes [] (by simpa using hs.p) hs.v hr
 simp only [List.nil_append, List.length_nil, List.append_nil] at h1 h2
 unfold recsOf newS
 rw [Int.toNat_natCast, List.map_append, h1, h2]
 rfl
theorem recs_short (s : TStable) (hs : SOk s) (hr : ∀ v ∈ s.Votes, RngV v) : Short ((recsOf s).map txt) := by
 have key : ∀ r : TRecord, RecOk r ∧ InR r → ((txt r).length : Int) ≤ 9223372036854775807 := fun r h => by have := txt_len r h.1 h.2; omega
 have hd : ∀ (y : Txts) (g i : Nat), g < 4 → i + y.length ≤ 200 → (∀ v ∈ y, v.length ≤ 1024) → ∀ r ∈ decs g i y, RecOk r ∧ InR r := by
  intro y
  induction y with
  | nil => intro g i _ _ _ r h; cases h
  | cons v y ih =>
   intro g i hg hi hv r h
   simp only [List.length_cons] at hi
   rcases List.mem_cons.1 h with rfl | h
   ·exact dec_ok hg (by omega) (hv v (List.mem_cons_self ..))
   ·exact ih g (i + 1) hg (by omega) (fun x hx => hv x (List.mem_cons_of_mem _ hx)) r h
 have ha : ∀ (L : List Txts) (g : Nat), g + L.length ≤ 4 → (∀ l ∈ L, LogOk l) → ∀ r ∈ allDecs g L, RecOk r ∧ InR r := by
  intro L
  induction L with
  | nil => intro g _ _ r h; cases h
  | cons y L ih =>
   intro g hg hl r h
   simp only [List.length_cons] at hg
   have hy := hl y (List.mem_cons_self ..)
   rcases List.mem_append.1 h with h | h
   ·exact hd y g 0 (by omega) (by have := hy.1; omega) hy.2 r h
   ·exact ih (g + 1) (by omega) (fun l hl' => hl l (List.mem_cons_of_mem _ hl')) r h
 intro t ht
 obtain ⟨r, hm, rfl⟩ := List.mem_map.1 ht
 refine key r ?_
 rcases List.mem_append.1 hm with h | h
 ·exact ha s.Logs 0 (by have := hs.n.2; omega) hs.l r h
 ·obtain ⟨v, hv, h⟩ := List.mem_flatMap.1 h
  have hS := hs.v v hv
  have hR := hr v hv
  unfold vrecs at h
  rcases List.mem_append.1 h with h | h
  ·split at h
   ·rename_i h0
    rw [List.mem_singleton] at h
    subst h
    exact acc_ok hs.n.2 hS hR h0
   ·cases h
  ·split at h
   ·rw [List.mem_singleton] at h
    subst h
    exact pro_ok hs.n.2 hS hR
   ·cases h
theorem flat_len {L : List Txts} : ∀ (V : List TSeen), (∀ v ∈ V, SeenOk L v) → (∀ v ∈ V, RngV v) → V.length ≤ (V.flatMap vrecs).length ∧ (V.flatMap vrecs).length ≤ 2 * V.length
 | [], _, _ => by simp
 | v :: V, hs, hr => by
  have h1 := vrecs_len (hs v (List.mem_cons_self ..)) (hr v (List.mem_cons_self ..))
  have h2 := flat_len V (fun x hx => hs x (List.mem_cons_of_mem _ hx)) (fun x hx => hr x (List.mem_cons_of_mem _ hx))
  simp only [List.flatMap_cons, List.length_append, List.length_cons]
  omega
end Go.Proofs
end
section
namespace Go.Proofs
open Go.Tm
set_option linter.unusedSimpArgs false
theorem many_loop : ∀ (L : List Txts) (n : Nat), n + total L < 1000000 → m_towncrierlaw11_StableBack_loop1 L (n : Int) = some ((n + total L : Nat) : Int)
 | [], n, _ => by rw [m_towncrierlaw11_StableBack_loop1]; simp [total]
 | y :: L, n, h => by
  simp only [total, List.map_cons, List.sum_cons] at h
  have ew : wr .i64 ((n : Int) + (y.length : Int)) = ((n + y.length : Nat) : Int) := by rw [wr_i (by omega) (by omega)]; omega
  rw [m_towncrierlaw11_StableBack_loop1, ew, many_loop L _ (by unfold total; omega)]
  simp only [total, List.map_cons, List.sum_cons, Nat.add_assoc]
theorem rng_wf {s : TStable} (hw : wf s.d) : ∀ v ∈ s.Votes, RngV v := by
 simp only [TStable.d, wf, wfL, wfL_iff, List.mem_map] at hw
 intro v hv
 have := hw.2.1.2 (by decide) v.d ⟨v, hv, rfl⟩
 simp only [TSeen.d, wf, wfL] at this
 exact ⟨this.2.2.1, this.2.2.2.1⟩
theorem back_law (a0 : TStable) (hw : wfL [a0.d]) : m_towncrierlaw11_StableBack a0 = some true := by
 have hr := rng_wf hw.1
 obtain ⟨b, hb, hgr⟩ := great_eq a0
 rw [m_towncrierlaw11_StableBack, hb]
 simp only [Option.bind_some]
 by_cases hc : b = true
 ·rw [if_pos hc]
 rw [if_neg hc]
 have hb0 : b = false := by simpa using hc
 obtain ⟨hv, _⟩ := hgr hb0
 by_cases hs : SOk a0
 ·have ht := total_le a0.Logs hs.l
  have hn := hs.n
  have hal := allDecs_len a0.Logs 0
  obtain ⟨f1, f2⟩ := flat_len a0.Votes hs.v hr
  have hlen : ((recsOf a0).map txt).length = total a0.Logs + (a0.Votes.flatMap vrecs).length := by rw [List.length_map]; unfold recsOf; rw [List.length_append, hal]
  rw [image_eq a0 hs hr (by omega)]
  simp only [Option.bind_some]
  rw [if_neg (by simp), replay_eq _ _ (recs_short a0 hs hr) (by omega), if_pos ⟨by omega, by omega⟩, fold_image a0 hs hr]
  simp only [Option.bind_some]
  have hm := many_loop a0.Logs 0 (by omega)
  have z : ((0 : Nat) : Int) = 0 := rfl
  rw [z, Nat.zero_add] at hm
  rw [hm]
  simp only [Option.bind_some]
  rw [if_pos ⟨trivial, trivial⟩, same_st]
  simp only [Option.bind_some]
  have w1 : wr .i64 (2 * (a0.Votes.length : Int)) = 2 * (a0.Votes.length : Int) := wr_i (by omega) (by omega)
  have w2 : wr .i64 ((total a0.Logs : Int) + 2 * (a0.Votes.length : Int)) = (total a0.Logs : Int) + 2 * (a0.Votes.length : Int) := wr_i (by omega) (by omega)
  have w3 : wr .i64 ((total a0.Logs : Int) + (a0.Votes.length : Int)) = (total a0.Logs : Int) + (a0.Votes.length : Int) := wr_i (by omega) (by omega)
  rw [w1, w2, w3, hlen, decide_eq_true (by omega), decide_eq_true (by omega)]
  rfl
 ·have : m_stable_Image a0 = some ([], 8) := by
   rw [m_stable_Image, check_eq, if_neg hs]; rfl
  rw [this]
  simp only [Option.bind_some]
  rw [if_pos (by decide), check_eq, if_neg hs]
  rfl
end Go.Proofs
end
section
namespace Go.Tm
open Go.RowKit Go.WideShapes Go.ChangeShapes
def aggT (P : Program) (t : TypeId) : Bool := match P.underlying t with
 | some (.struct _) => true
 | _ => false
def mkD (P : Program) (t : TypeId) (l : List D) : D := bif aggT P t then .agg l else l.headD .undef
def fieldsIn (P : Program) (chk : TypeId → Bool) : Nat → List Field → Nat → Bool
 | off, [], tot => Nat.beq off tot
 | off, f :: fs, tot => Nat.beq f.offset off && chk f.type && fieldsIn P chk (off + P.cellsOf f.type) fs tot
def dataT (P : Program) : Nat → TypeId → Bool
 | 0, _ => false
 | n + 1, t => match P.underlying t with
  | some .bool => true
  | some (.int _) => true
  | some .string => true
  | some (.slice e) => dataT P n e && Nat.blt 0 (P.cellsOf e) && (aggT P e || Nat.beq (P.cellsOf e) 1)
  | some (.struct fs) => fieldsIn P (dataT P n) 0 fs.toList (P.cellsOf t)
  | _ => false
def typedL (p : TypeId → List D → Prop) : List TypeId → List D → Prop
 | [], l => l = []
 | t :: ts, l => ∃ l1 l2, l = l1 ++ l2 ∧ p t l1 ∧ typedL p ts l2
def typed (P : Program) : Nat → TypeId → List D → Prop
 | 0, _, _ => False
 | n + 1, t, l => match P.underlying t with
  | some .bool => ∃ b, l = [.bool b]
  | some (.int k) => ∃ m, l = [.int k m]
  | some .string => ∃ s, l = [.str s]
  | some (.slice e) => ∃ xs : List (List D), l = [.imm (P.cellsOf e) (xs.map (mkD P e)) 4] ∧ ∀ x ∈ xs, typed P n e x
  | some (.struct fs) => typedL (typed P n) (fs.toList.map (·.type)) l
  | _ => False
theorem reps_append' {C : Cx} : ∀ {l1 l2 : List D} {v1 v2 : List Value}, reps C l1 v1 → reps C l2 v2 → reps C (l1 ++ l2) (v1 ++ v2)
 | [], l2, v1, v2, h1, h2 => by simp only [reps] at h1; subst h1; simpa using h2
 | d :: ds, l2, v1, v2, h1, h2 => by
  simp only [reps] at h1
  obtain ⟨v, vs, rfl, hd, h1⟩ := h1
  simp only [List.cons_append, reps]
  exact ⟨v, vs ++ v2, rfl, hd, reps_append' h1 h2⟩
theorem elems_of {C : Cx} {b s : Nat} {p : List D → Prop} {f : List D → D} : ∀ (n o : Nat), (∀ i, i < n → ∃ l v, p l ∧ rep C (f l) v ∧ v.cells.size = s ∧ v.cells.toList.all (·.oneCell') = true ∧ C.w.rangeAt b (o + i * s) v.cells.toList) →
  ∃ xs : List (List D), xs.length = n ∧ elems C (xs.map f) b o s ∧ ∀ x ∈ xs, p x
 | 0, o, _ => ⟨[], rfl, by simp only [List.map_nil, elems], by simp⟩
 | n + 1, o, h => by
  obtain ⟨l, v, h1, h2, h3, h4, h5⟩ := h 0 (by omega)
  obtain ⟨xs, g1, g2, g3⟩ := elems_of n (o + s) (fun i hi => by
   obtain ⟨l, v, h1, h2, h3, h4, h5⟩ := h (i + 1) (by omega)
   exact ⟨l, v, h1, h2, h3, h4, by rwa [show o + (i + 1) * s = o + s + i * s by rw [Nat.add_mul]; omega] at h5⟩)
  refine ⟨l :: xs, by simp [g1], ?_, by simpa using ⟨h1, g3⟩⟩
  simp only [List.map_cons, elems]
  exact ⟨⟨v, h2, h3, h4, by simpa using h5⟩, g2⟩
theorem fieldsIn_le {P : Program} {chk : TypeId → Bool} : ∀ (fs : List Field) (off tot : Nat), fieldsIn P chk off fs tot = true → off ≤ tot
 | [], off, tot, h => Nat.le_of_eq (Nat.eq_of_beq_eq_true h)
 | f :: fs, off, tot, h => by
  simp only [fieldsIn, Bool.and_eq_true] at h
  have := fieldsIn_le fs _ _ h.2
  omega
section
variable {H : Type} {enc : TypeId × Value → H} {P : Program} {w : World} {sp : Nat → Bool}
theorem trod_reps : ∀ (n fuel : Nat) (t : TypeId) (cs : List Value) (x : DataW H × List MemPlace) (C : Cx), C.w = w → (∀ b, ¬ C.M b) → (∀ b, C.Z b) → dataT P n t = true → DataW.trod enc P w 0 sp true fuel t cs = some x →
  ∃ l, reps C l cs ∧ typed P n t l ∧ cs.all (·.oneCell') = true
 | 0, _, _, _, _, _, _, _, _, h, _ => by simp [dataT] at h
 | n + 1, fuel, t, cs, x, C, hw, hM, hlo, hd, h => by
  unfold dataT at hd
  split at hd
  ·rename_i ht
   simp only [typed, ht]
   obtain ⟨b, rfl, _⟩ := DataW.trod_bool ht h
   exact ⟨[.bool b], by simp only [reps, rep]; exact ⟨_, _, rfl, rfl, rfl⟩, ⟨b, rfl⟩, rfl⟩
  ·rename_i k ht
   simp only [typed, ht]
   obtain ⟨m, rfl, _, hwf⟩ := DataW.trod_int ht h
   simp only [Lit.wf, Bool.and_eq_true, decide_eq_true_eq] at hwf
   exact ⟨[.int k m], by simp only [reps, rep]; exact ⟨_, _, rfl, ⟨rfl, hwf⟩, rfl⟩, ⟨m, rfl⟩, rfl⟩
  ·rename_i ht
   simp only [typed, ht]
   obtain ⟨s, rfl, _, hs⟩ := DataW.trod_string ht h
   refine ⟨[.str s.data.toList], ?_, ⟨_, rfl⟩, rfl⟩
   simp only [reps, rep]
   refine ⟨_, _, rfl, ⟨by rw [Array.toArray_toList], ?_⟩, rfl⟩
   have h1 : s.data.toList.length = s.size := by rw [Array.length_toList]; rfl
   have h2 : s.size ≤ 9223372036854775807 := hs
   rw [h1]; omega
  ·rename_i e ht
   simp only [typed, ht]
   simp only [Bool.and_eq_true, Bool.or_eq_true] at hd
   obtain ⟨⟨hde, hpos⟩, hone⟩ := hd
   have hpos : 0 < P.cellsOf e := Nat.le_of_ble_eq_true hpos
   rcases DataW.trod_slice ht h with ⟨rfl, _⟩ | ⟨a, len, cap, els, rest, m, _, rfl, _, hb, hl, hc, hlen, hel, _⟩
   ·refine ⟨[.imm (P.cellsOf e) (([] : List (List D)).map (mkD P e)) 4], ?_, ⟨[], rfl, fun _ h => by cases h⟩, rfl⟩
    simp only [reps, rep, List.map_nil, List.length_nil]
    exact ⟨_, _, rfl, ⟨none, 0, rfl, by simp, by simp, by simp, by simp, by simp, by simp, by simp, .inl trivial⟩, rfl⟩
   ·have hc : cap ≤ 9223372036854775807 := hc
    have key : ∀ i, i < len → ∃ l v, typed P n e l ∧ rep (C.at C.Z) (mkD P e l) v ∧ v.cells.size = P.cellsOf e ∧ v.cells.toList.all (·.oneCell') = true ∧ (i = 0 → a.spot = none) ∧ a.block < w.heap.size ∧ w.rangeAt a.block (a.off + i * P.cellsOf e) v.cells.toList := by
     intro i hi
     have hi' := hel i hi
     have hsome : els[i]? = some els[i] := List.getElem?_eq_getElem (by omega)
     rw [hsome, Option.bind_eq_some_iff] at hi'
     obtain ⟨cs', hcs, htr⟩ := hi'
     obtain ⟨_, hclen, hcell⟩ := World.cells?_some hcs
     obtain ⟨l, g1, g2, g3⟩ := trod_reps n m e cs' _ (C.at C.Z) (by simpa [Cx.at] using hw) (by simpa [Cx.at] using hM) (by simpa [Cx.at] using hlo) hde htr
     have h0 := hcell 0 hpos
     have hc0 : cs'[0]? = some cs'[0] := List.getElem?_eq_getElem (by omega)
     rw [hc0] at h0
     have hadd : ∀ j, ((a.add (i * P.cellsOf e)).add j).block = a.block := by intro j; unfold Addr.add; split <;> split <;> rfl
     have hblk : a.block < w.heap.size ∧ ((a.add (i * P.cellsOf e)).add 0).spot = none := by
      unfold World.cell? at h0
      rw [hadd] at h0
      split at h0
      ·rename_i c T fz hh
       have := (Array.getElem?_eq_some_iff.1 hh).1
       split at h0
       ·cases h0
       ·rename_i hs; exact ⟨this, by simpa using hs⟩
      ·cases h0
     have hspot0 : (a.add (i * P.cellsOf e)).spot = none := by simpa [Addr.add] using hblk.2
     have hae : ∀ j, j < P.cellsOf e → (a.add (i * P.cellsOf e)).add j = ⟨a.block, a.off + i * P.cellsOf e + j, none⟩ := by
      intro j _
      unfold Addr.add at hspot0 ⊢
      split at hspot0
      ·rename_i hz
       simp only [hz, if_true, Nat.add_zero]
       split
       ·rename_i hj; subst hj; cases a; simp_all
       ·rfl
      ·rename_i hz
       simp only [hz, if_false]
       split
       ·rename_i hj; subst hj; rfl
       ·rfl
     have hrange : w.rangeAt a.block (a.off + i * P.cellsOf e) cs' := by
      intro j v hj
      have hjl := (List.getElem?_eq_some_iff.1 hj).1
      have := hcell j (by omega)
      rw [hae j (by omega), hj] at this
      exact this
     cases hag : aggT P e with
     | true =>
      refine ⟨l, .agg cs'.toArray, g2, ?_, by simp [Value.cells, hclen], by simpa [Value.cells] using g3, ?_, hblk.1, by simpa [Value.cells] using hrange⟩
      ·simp only [mkD, hag, cond_true, rep]
       exact ⟨cs', rfl, g1⟩
      ·rintro rfl; simpa [Addr.add] using hspot0
     | false =>
      rw [hag] at hone
      have h1 : P.cellsOf e = 1 := by simpa using hone
      rw [h1] at hclen
      obtain ⟨v, rfl⟩ := List.length_eq_one_iff.1 hclen
      obtain ⟨d, rfl⟩ : ∃ d, l = [d] := List.length_eq_one_iff.1 ((reps_length _ _ g1).symm.trans rfl)
      simp only [reps] at g1
      obtain ⟨v', vs', hv, hd, rfl⟩ := g1
      obtain rfl : v = v' := (List.cons.inj hv).1
      have hcv : v.cells = #[v] := by
       simp only [List.all_cons, List.all_nil, Bool.and_true] at g3
       cases v <;> first | rfl | simp [Value.oneCell'] at g3
      refine ⟨[d], v, g2, by simpa [mkD, hag] using hd, by simp [hcv, h1], by simpa [hcv] using g3, ?_, hblk.1, by simpa [hcv] using hrange⟩
      rintro rfl; simpa [Addr.add] using hspot0
    obtain ⟨xs, g1, g2, g3⟩ := elems_of (C := C.at C.Z) (b := a.block) (s := P.cellsOf e) (p := typed P n e) (f := mkD P e) len a.off (fun i hi => by
     obtain ⟨l, v, h1, h2, h3, h4, _, _, h5⟩ := key i hi
     exact ⟨l, v, h1, h2, h3, h4, by subst hw; exact h5⟩)
    refine ⟨[.imm (P.cellsOf e) (xs.map (mkD P e)) 4], ?_, ⟨xs, rfl, g3⟩, rfl⟩
    simp only [reps, rep, List.length_map, g1]
    refine ⟨_, _, rfl, ⟨some a, cap, rfl, hl, by omega, by simp, by simp, by simp, by simp, by simp, ?_⟩, rfl⟩
    rcases Nat.eq_zero_or_pos len with h0 | h0
    ·left; subst h0; have := List.length_eq_zero_iff.1 g1; simp [this]
    ·right
     obtain ⟨_, _, _, _, _, _, k1, k2, _⟩ := key 0 h0
     intro Z hZ
     have hZ : C.Z = Z := by simpa [Cx.zone] using hZ
     subst hZ
     exact ⟨a, rfl, k1 rfl, hM _, hlo _, by rw [hw]; exact k2, g2⟩
  ·rename_i fs ht
   simp only [typed, ht]
   obtain ⟨xs, m, _, _, hcl, hxl, hf⟩ := DataW.trod_struct ht h
   have key : ∀ (gs : List Field) (k : Nat), (∀ i f, gs[i]? = some f → fs[k + i]? = some f) → ∀ off, fieldsIn P (dataT P n) off gs (P.cellsOf t) = true → off ≤ cs.length → 
     ∃ l, reps C l (cs.drop off) ∧ typedL (typed P n) (gs.map (·.type)) l ∧ (cs.drop off).all (·.oneCell') = true := by
    intro gs
    induction gs with
    | nil =>
     intro k _ off ho _
     simp only [fieldsIn] at ho
     have ho := Nat.eq_of_beq_eq_true ho
     have : cs.drop off = [] := by rw [ho, ← hcl]; simp
     rw [this]
     exact ⟨[], by simp only [reps], rfl, rfl⟩
    | cons f gs ih =>
     intro k hk off ho hle
     simp only [fieldsIn, Bool.and_eq_true] at ho
     obtain ⟨⟨h1, h2⟩, h3⟩ := ho
     have h1 := Nat.eq_of_beq_eq_true h1
     have hfk := hf k f (by simpa using hk 0 f rfl)
     have hkl : k < xs.length := by
      have := hk 0 f rfl
      rw [hxl]
      exact (Array.getElem?_eq_some_iff.1 (by simpa using this)).1
     rw [List.getElem?_eq_getElem hkl, h1] at hfk
     obtain ⟨l1, g1, g2, g3⟩ := trod_reps n m f.type _ _ C hw hM hlo h2 hfk
     have hl1 : ((cs.drop off).take (P.cellsOf f.type)).length = P.cellsOf f.type := by
      have := fieldsIn_le _ _ _ h3
      simp
      omega
     obtain ⟨l2, k1, k2, k3⟩ := ih (k + 1) (fun i f' hi => by have := hk (i + 1) f' (by simpa using hi); rwa [show k + (i + 1) = k + 1 + i by omega] at this) (off + P.cellsOf f.type) h3 (by
      simp at hl1; omega)
     have e : cs.drop off = (cs.drop off).take (P.cellsOf f.type) ++ cs.drop (off + P.cellsOf f.type) := by
      rw [← List.drop_drop, List.take_append_drop]
     refine ⟨l1 ++ l2, by rw [e]; exact reps_append' g1 k1, ⟨l1, l2, rfl, g2, k2⟩, by rw [e, List.all_append, g3, k3]; rfl⟩
   simpa using key fs.toList 0 (fun i f hi => by simpa using hi) 0 hd (Nat.zero_le _)
  ·cases hd
theorem trod_rep {r : Reach} {b0 n : Nat} {t : TypeId} {v : Value} {d : DataW H} {ps : List MemPlace} {fr : Nat} (hd : dataT P n t = true) (hval : Value.okWide P w r b0 t v) (h : DataW.Trod enc P w 0 sp true t v d ps) :
  ∃ l, typed P n t l ∧ rep (cx0 w fr) (mkD P t l) v := by
 obtain ⟨fuel, h⟩ := h
 obtain ⟨l, h1, h2, h3⟩ := trod_reps n fuel t _ _ (cx0 w fr) rfl (fun _ h => h) (fun _ => trivial) hd h
 refine ⟨l, h2, ?_⟩
 unfold mkD aggT
 cases n with
 | zero => simp [dataT] at hd
 | succ n =>
  unfold dataT at hd
  unfold Value.okWide at hval
  split at hd
  case h_5 fs ht =>
   rw [ht] at hval ⊢
   obtain ⟨cs, rfl, _⟩ := hval
   simp only [cond_true, rep]
   exact ⟨cs.toList, by simp, by simpa [Value.cells] using h1⟩
  case h_6 => cases hd
  all_goals
   rename_i ht
   rw [ht] at hval ⊢
   simp only [cond_false]
   have hcv : v.cells = #[v] := by
    cases v with
    | agg cs => simp [Cell.okWide, Cell.ok, ht] at hval
    | _ => rfl
   rw [hcv] at h1
   have hl : ∃ d, l = [d] := List.length_eq_one_iff.1 ((reps_length _ _ h1).symm.trans rfl)
   obtain ⟨d, rfl⟩ := hl
   simp only [reps] at h1
   obtain ⟨v', vs', hv, hd', _⟩ := h1
   obtain rfl : v = v' := by simpa using (List.cons.inj hv).1
   exact hd'
def typedAll (P : Program) (n : Nat) : List TypeId → List D → Prop
 | [], l => l = []
 | t :: ts, l => ∃ c r, l = mkD P t c :: r ∧ typed P n t c ∧ typedAll P n ts r
theorem trodAll_reps {r : Reach} {b0 n fr : Nat} : ∀ {ts : List TypeId} {vs : List Value} {ds : List (DataW H)} {ps : List MemPlace}, ts.all (dataT P n) = true → (∀ (j : Nat) t v, ts[j]? = some t → vs[j]? = some v → Value.okWide P w r b0 t v) →
  DataW.TrodAll enc P w 0 sp true ts vs ds ps → ∃ l, typedAll P n ts l ∧ reps (cx0 w fr) l vs
 | [], [], [], _, _, _, _ => ⟨[], rfl, by simp only [reps]⟩
 | t :: ts, v :: vs, d :: ds, ps, hd, hval, h => by
  obtain ⟨p, q, h1, h2, _⟩ := h
  simp only [List.all_cons, Bool.and_eq_true] at hd
  obtain ⟨c, g1, g2⟩ := trod_rep (fr := fr) hd.1 (hval 0 t v rfl rfl) h1
  obtain ⟨l, k1, k2⟩ := trodAll_reps hd.2 (fun j t v h h' => hval (j + 1) t v h h') h2
  exact ⟨_ :: l, ⟨c, l, rfl, g1, k1⟩, by simp only [reps]; exact ⟨_, _, rfl, g2, k2⟩⟩
 | [], _ :: _, _, _, _, _, h => h.elim
 | [], [], _ :: _, _, _, _, h => h.elim
 | _ :: _, [], _, _, _, _, h => h.elim
 | _ :: _, _ :: _, [], _, _, _, h => h.elim
theorem trodAll_stays (hl : laidOutB P = true) {W W' : World} (hB : Below W.heap.size W W') {sp' : Nat → Bool} : ∀ {ts : List TypeId} {vs : List Value} {ds : List (DataW H)} {ps : List MemPlace}, (ts.all fun t => P.readableRec t && Nat.blt t P.types.size) = true →
  DataW.TrodAll enc P W 0 (fun _ => true) true ts vs ds ps → (∀ p ∈ ps, p.block < W.heap.size ∧ sp' p.block = true) → DataW.TrodAll enc P W' 0 sp' true ts vs ds ps
 | [], [], [], _, _, h, _ => h
 | t :: ts, v :: vs, d :: ds, ps, hr, h, hp => by
  obtain ⟨p, q, h1, h2, rfl⟩ := h
  simp only [List.all_cons, Bool.and_eq_true] at hr
  refine ⟨p, q, WideElems.Trod_stays hl hr.1.1 (Nat.le_of_ble_eq_true hr.1.2) h1 (fun x hx => hB.same (hp x (by simp [hx])).1) (fun x hx => (hp x (by simp [hx])).2), ?_, rfl⟩
  exact trodAll_stays hl hB hr.2 h2 fun x hx => hp x (by simp [hx])
 | [], _ :: _, _, _, _, h, _ => h.elim
 | [], [], _ :: _, _, _, h, _ => h.elim
 | _ :: _, [], _, _, _, h, _ => h.elim
 | _ :: _, _ :: _, [], _, _, h, _ => h.elim
theorem law_contract {K : FuncId} {f : Func} {s : ChangeSpec} {apart fresh : Bool} {n : Nat} {tb : TypeId} (hl : laidOutB P = true) (hr : (f.params.toList.all fun t => P.readableRec t && Nat.blt t P.types.size) = true)
  (hd : f.params.toList.all (dataT P n) = true) (hvars : s.vars = []) (hres : f.resultTypes = #[tb]) (hb : P.underlying tb = some .bool)
  (hfn : ∀ ds : List (DataW H), ds.length = f.params.size → s.fn H ds = { results := [.lit (.bool true)], args := ds })
  (hK : ∀ l, typedAll P n f.params.toList l → CallP P K l (.bool true)) {W : World} {base : Nat} {args : Array Value} {ds gs : List (DataW H)} {before : List MemPlace}
  (hval : ∀ (j : Nat) t v, f.params[j]? = some t → args[j]? = some v → Value.okWide P W .any base t v) (hW : DataW.Whole enc P f.params.toList s.vars apart W args.toList ds gs before) :
  Calls P K args W fun e W' => ∃ v, e = .returned v ∧ s.post enc P f apart fresh false false W args v W' := by
 have hW' := hW
 obtain ⟨p, q, hA, hV, rfl, hfz, hnd⟩ := hW
 rw [hvars] at hV
 have hlen : ds.length = f.params.size := by
  have : ∀ {ts : List TypeId} {vs : List Value} {ds : List (DataW H)} {ps : List MemPlace}, DataW.TrodAll enc P W 0 (fun _ => true) true ts vs ds ps → ds.length = ts.length := by
   intro ts
   induction ts with
   | nil => intro vs ds ps h; cases vs <;> cases ds <;> first | rfl | exact h.elim
   | cons t ts ih => intro vs ds ps h; cases vs <;> cases ds <;> first | (obtain ⟨_, _, _, h2, _⟩ := h; simp [ih h2]) | exact h.elim
  simpa using this hA
 have hgs : gs = [] ∧ q = [] := by
  cases gs with
  | nil => exact ⟨rfl, hV⟩
  | cons g gs => exact hV.elim
 obtain ⟨rfl, rfl⟩ := hgs
 obtain ⟨l, h1, h2⟩ := trodAll_reps (fr := W.heap.size) hd (fun j t v h h' => hval j t v (by simpa using h) (by simpa using h')) hA
 refine ((hK l h1).2 W _ h2).mono fun e W' ⟨v, he, hk, _, hv⟩ => ⟨v, he, ?_⟩
 simp only [rep] at hv
 subst hv
 have hB := hk.below
 have hlt := hW'.lt
 have hf := hfn ds hlen
 refine ⟨ds, [], p ++ [], [], p, [], hW', ?_, ?_, ?_, ?_, fun h => by cases h⟩
 ·rw [List.append_nil, hf, hres]
  exact ⟨[], [], ⟨1, by simp [DataW.trod, Value.cells, hb]⟩, rfl, rfl⟩
 ·rw [List.append_nil, hf]
  exact trodAll_stays hl hB hr hA fun x hx => ⟨hlt x (by simp [hx]), by simpa using hlt x (by simp [hx])⟩
 ·rw [List.append_nil, hf, hvars]
  rfl
 ·exact hB.frame _
end
theorem list_of {α : Type} {f : α → D} {g : List D → D} : ∀ (xs : List (List D)), (∀ x ∈ xs, ∃ y, g x = f y) → ∃ l : List α, xs.map g = l.map f
 | [], _ => ⟨[], rfl⟩
 | x :: xs, h => by
  obtain ⟨y, hy⟩ := h x (by simp)
  obtain ⟨l, hl⟩ := list_of xs fun x hx => h x (by simp [hx])
  exact ⟨y :: l, by simp only [List.map_cons, hy, hl]⟩
section
variable {P : Program} {n : Nat} {t : TypeId} {l : List D}
theorem mkD_one {d : D} (ha : aggT P t = false) : mkD P t [d] = d := by simp only [mkD, ha, cond_false, List.headD_cons]
theorem mkD_agg (ha : aggT P t = true) : mkD P t l = .agg l := by simp only [mkD, ha, cond_true]
theorem typed_int {k : IntKind} (hu : P.underlying t = some (.int k)) (h : typed P (n + 1) t l) : ∃ m, l = [.int k m] := by
 rw [typed, hu] at h; exact h
theorem typed_str (hu : P.underlying t = some .string) (h : typed P (n + 1) t l) : ∃ s, l = [.str s] := by
 rw [typed, hu] at h; exact h
theorem typed_list {α : Type} (f : α → D) {e : TypeId} {s : Nat} (hu : P.underlying t = some (.slice e)) (ha : aggT P t = false) (hc : P.cellsOf e = s) (hx : ∀ x, typed P n e x → ∃ y, mkD P e x = f y) (h : typed P (n + 1) t l) :
  ∃ m : List α, mkD P t l = .imm s (m.map f) 4 := by
 rw [typed, hu] at h
 obtain ⟨xs, rfl, hxs⟩ := h
 obtain ⟨m, hm⟩ := list_of (f := f) (g := mkD P e) xs fun x hx' => hx x (hxs x hx')
 exact ⟨m, by rw [mkD_one ha, hm, hc]⟩
theorem typed_one {e : TypeId} (hu : P.underlying t = some (.slice e)) (h : typed P (n + 1) t l) : ∃ d, l = [d] := by
 rw [typed, hu] at h
 obtain ⟨xs, rfl, _⟩ := h
 exact ⟨_, rfl⟩
theorem typed_struct {fs : Array Field} (hu : P.underlying t = some (.struct fs)) (h : typed P (n + 1) t l) : typedL (typed P n) (fs.toList.map (·.type)) l := by
 rw [typed, hu] at h; exact h
theorem typedL_cons {p : TypeId → List D → Prop} {ts : List TypeId} (h : typedL p (t :: ts) l) : ∃ l1 l2, l = l1 ++ l2 ∧ p t l1 ∧ typedL p ts l2 := h
theorem typedL_nil {p : TypeId → List D → Prop} (h : typedL p [] l) : l = [] := h
theorem typedAll_cons {ts : List TypeId} (h : typedAll P n (t :: ts) l) : ∃ c r, l = mkD P t c :: r ∧ typed P n t c ∧ typedAll P n ts r := h
theorem typedAll_nil (h : typedAll P n [] l) : l = [] := h
end
end Go.Tm
end
section
namespace Go.Proofs.Ytkfipajabmhkbaa.stableBack
open Go.ChangeShapes Go.WideShapes Go.RowKit Go.Tm
set_option maxRecDepth 100000
theorem own : ownKnob Try.prog.godebug = none := by kernel_rfl
theorem agg25 : aggT Try.prog 25 = true := by kernel_rfl
theorem agg22 : aggT Try.prog 22 = false := by kernel_rfl
theorem agg34 : aggT Try.prog 34 = false := by kernel_rfl
theorem agg9 : aggT Try.prog 9 = false := by kernel_rfl
theorem cells9 : Try.prog.cellsOf 9 = 1 := by kernel_rfl
theorem tc34 {n : Nat} {l : List D} (h : typed Try.prog (n + 2) 34 l) : ∃ m : List (List UInt8), l = [.imm 1 (m.map D.str) 4] := by
 obtain ⟨d, hd⟩ := typed_one Try.underlying34 h
 obtain ⟨m, hm⟩ := typed_list D.str Try.underlying34 agg34 cells9 (fun x hx => by
  obtain ⟨a, ha⟩ := typed_str Try.underlying9 hx
  exact ⟨a, ha ▸ mkD_one agg9⟩) h
 rw [hd, mkD_one agg34] at hm
 exact ⟨m, by rw [hd, hm]⟩
theorem cells34 : Try.prog.cellsOf 34 = 1 := by kernel_rfl
theorem tc22 {n : Nat} {l : List D} (h : typed Try.prog (n + 3) 22 l) : ∃ m : List (List (List UInt8)), l = [.imm 1 (m.map dL_str) 4] := by
 obtain ⟨d, hd⟩ := typed_one Try.underlying22 h
 obtain ⟨m, hm⟩ := typed_list dL_str Try.underlying22 agg22 cells34 (fun x hx => by
  obtain ⟨a, ha⟩ := tc34 (n := n) hx
  exact ⟨a, ha ▸ mkD_one agg34⟩) h
 rw [hd, mkD_one agg22] at hm
 exact ⟨m, by rw [hd, hm]⟩
theorem agg23 : aggT Try.prog 23 = false := by kernel_rfl
theorem agg67 : aggT Try.prog 67 = true := by kernel_rfl
theorem tc37 {n : Nat} {l : List D} (h : typed Try.prog (n + 2) 37 l) : ∃ x : TVote, l = [.int .i64 x.Promised, .int .i64 x.Ballot, .str x.Value] := by
 replace h := typed_struct Try.underlying37 h
 obtain ⟨l0, r0, e0, h0, h⟩ := typedL_cons h
 obtain ⟨l1, r1, e1, h1, h⟩ := typedL_cons h
 obtain ⟨l2, r2, e2, h2, h⟩ := typedL_cons h
 have ez := typedL_nil h
 obtain ⟨a0, f0⟩ := typed_int Try.underlying3 h0
 obtain ⟨a1, f1⟩ := typed_int Try.underlying3 h1
 obtain ⟨a2, f2⟩ := typed_str Try.underlying9 h2
 refine ⟨⟨a0, a1, a2⟩, ?_⟩
 rw [e0, e1, e2, ez, f0, f1, f2]
 exact rfl
theorem tc67 {n : Nat} {l : List D} (h : typed Try.prog (n + 3) 67 l) : ∃ x : TSeen, l = [.int .i64 x.Group, .int .i64 x.Slot, .int .i64 x.Vote.Promised, .int .i64 x.Vote.Ballot, .str x.Vote.Value] := by
 replace h := typed_struct Try.underlying67 h
 obtain ⟨l0, r0, e0, h0, h⟩ := typedL_cons h
 obtain ⟨l1, r1, e1, h1, h⟩ := typedL_cons h
 obtain ⟨l2, r2, e2, h2, h⟩ := typedL_cons h
 have ez := typedL_nil h
 obtain ⟨a0, f0⟩ := typed_int Try.underlying3 h0
 obtain ⟨a1, f1⟩ := typed_int Try.underlying3 h1
 obtain ⟨a2, f2⟩ := tc37 (n := n + 0) h2
 refine ⟨⟨a0, a1, a2⟩, ?_⟩
 rw [e0, e1, e2, ez, f0, f1, f2]
 exact rfl
theorem cells67 : Try.prog.cellsOf 67 = 5 := by kernel_rfl
theorem tc23 {n : Nat} {l : List D} (h : typed Try.prog (n + 4) 23 l) : ∃ m : List TSeen, l = [.imm 5 (m.map TSeen.d) 4] := by
 obtain ⟨d, hd⟩ := typed_one Try.underlying23 h
 obtain ⟨m, hm⟩ := typed_list TSeen.d Try.underlying23 agg23 cells67 (fun x hx => by
  obtain ⟨a, ha⟩ := tc67 (n := n) hx
  exact ⟨a, (mkD_agg agg67).trans (by rw [ha]; rfl)⟩) h
 rw [hd, mkD_one agg23] at hm
 exact ⟨m, by rw [hd, hm]⟩
theorem tc25 {n : Nat} {l : List D} (h : typed Try.prog (n + 5) 25 l) : ∃ x : TStable, l = [.imm 1 (x.Logs.map dL_str) 4, .imm 5 (x.Votes.map TSeen.d) 4] := by
 replace h := typed_struct Try.underlying25 h
 obtain ⟨l0, r0, e0, h0, h⟩ := typedL_cons h
 obtain ⟨l1, r1, e1, h1, h⟩ := typedL_cons h
 have ez := typedL_nil h
 obtain ⟨a0, f0⟩ := tc22 (n := n + 1) h0
 obtain ⟨a1, f1⟩ := tc23 (n := n + 0) h1
 refine ⟨⟨a0, a1⟩, ?_⟩
 rw [e0, e1, ez, f0, f1]
 exact rfl
theorem params7 : Try.f7.params.toList = [25] := by kernel_rfl
theorem hK (l : List D) (h : typedAll Try.prog 8 Try.f7.params.toList l) : CallP Try.prog 7 l (.bool true) := by
 rw [params7] at h
 obtain ⟨c0, r0, e0, h0, h⟩ := typedAll_cons h
 have ez := typedAll_nil h
 obtain ⟨a0, f0⟩ := tc25 (n := 3) h0
 rw [e0, ez, f0, mkD_agg agg25]
 exact callP_wf ⟨Try.f7, Try.func7, by decide, rfl⟩ fun hw => callP_towncrierlaw11_StableBack a0 _ (back_law a0 hw)
set_option maxRecDepth 100000 in
theorem lifted (os : Os) (started : os.Started) (H : Type) (enc : TypeId × Value → H) :
  ReturnsInHanded {} Try.checked os 7 .any (Rows.stableBackSpec.pre6 enc Try.prog Try.f7 Rows.stableBackRow.domain false) (Rows.stableBackSpec.post enc Try.prog Try.f7 false true false false) := by
 refine returnsInHanded_of_change (C := Try.checked) own started (by kernel_rfl) Try.func7
  (ChangeSpec.witness6 (enc := enc) (C := Try.checked) false ⟨#[], #[.agg #[.slice none 0 0, .slice none 0 0]], []⟩ 8 (by kernel_rfl) (by kernel_rfl) (by kernel_rfl) (by kernel_rfl)) ?_
 intro W base args ds gs before hval hW _ _
 exact law_contract (K := 7) (n := 8) (tb := 4) (by kernel_rfl) (by kernel_rfl) (by kernel_rfl) rfl rfl Try.underlying4 (fun ds h => by
  match ds, h with
  | [_], _ => rfl) hK hval hW
end Go.Proofs.Ytkfipajabmhkbaa.stableBack
end

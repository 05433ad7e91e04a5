/- Texts of the proof. -/
import Derived.Test.YtkfipajabmhkbaaStableDoesPf
import Derived.Test.YtkfipajabmhkbaaStableDoesPg
import Derived.Test.YtkfipajabmhkbaaStableDoesPi
import Derived.Test.YtkfipajabmhkbaaStableDoesPj
import Derived.Test.YtkfipajabmhkbaaStableDoesPe
import Derived.Test.YtkfipajabmhkbaaStableDoesPk
import Derived.Test.YtkfipajabmhkbaaStableDoesPh
section
namespace Go.Proofs
open Go.Tm
set_option linter.unusedVariables false
def m_num_in (a0 : Int) : Option Bool :=
 some ((decide (a0 ≥ 0)) && (decide (a0 ≤ 1099511627776)))
def m_num_Get_loop1 : List Int → Nat → Int → Option ((Int × Int × Int) ⊕ Unit)
 | [], n2, n1 =>
  some (.inr ())
 | y1 :: rest1, n2, n1 =>
  if (n2 : Int) > 5 then
  some (.inr ())
  else
  if 0 ≤ (wr .i64 (7 * (n2 : Int))) then
  if y1 > 127 then
  m_num_Get_loop1 rest1 (n2 + 1) (bitw .or .i64 n1 (shw true .i64 (wr .i64 (bitw .and .u8 (y1) 127)) (wr .i64 (7 * (n2 : Int)))))
  else
  Option.bind (if ¬ ((y1 = 0) ∧ ((n2 : Int) > 0)) then m_num_in (bitw .or .i64 n1 (shw true .i64 (wr .i64 (bitw .and .u8 (y1) 127)) (wr .i64 (7 * (n2 : Int))))) else some default) fun v1 =>
  if ((y1 = 0) ∧ ((n2 : Int) > 0)) ∨ (¬ (v1 = true)) then
  some (.inr ())
  else
  some (.inl ((bitw .or .i64 n1 (shw true .i64 (wr .i64 (bitw .and .u8 (y1) 127)) (wr .i64 (7 * (n2 : Int))))), (wr .i64 ((n2 : Int) + 1)), 0))
  else none
def m_num_Get (a0 : List Int) : Option (Int × Int × Int) :=
 Option.bind (α := (Int × Int × Int) ⊕ Unit) (m_num_Get_loop1 a0 0 0) fun z => match z with
 | (.inl r) => some r
 | (.inr _) =>
 some (0, 0, 8)
def m_num_GetText (a0 : List Int) : Option ((List UInt8) × Int × Int) :=
 Option.bind (m_num_Get a0) fun v1 =>
 if ((¬ (v1.2.2 = 0)) ∨ (v1.1 > 4096)) ∨ (v1.1 > (wr .i64 ((a0.length : Int) - v1.2.1))) then
 some ([], 0, 8)
 else
 if (0 ≤ v1.2.1 ∧ v1.2.1 ≤ (wr .i64 (v1.2.1 + v1.1)) ∧ (wr .i64 (v1.2.1 + v1.1)) ≤ (a0.length : Int)) then
 some ((toBytes ((a0.take (wr .i64 (v1.2.1 + v1.1)).toNat).drop v1.2.1.toNat)), (wr .i64 (v1.2.1 + v1.1)), 0)
 else none
def m_record_Read_1 (c0 : List Int) (c1 : Bool) : Option (Int × (List Int) × Bool) :=
 Option.bind (m_num_Get c0) fun v1 =>
 if (0 ≤ v1.2.1 ∧ v1.2.1 ≤ (c0.length : Int)) then
 some (v1.1, (c0.drop v1.2.1.toNat), (c1 || (v1.2.2 != 0)))
 else none
def m_record_Read (a0 : List UInt8) : Option (TRecord × Int) :=
 Option.bind (m_record_Read_1 (ofBytes a0) false) fun v1 =>
 Option.bind (m_record_Read_1 v1.2.1 v1.2.2) fun v2 =>
 Option.bind (m_record_Read_1 v2.2.1 v2.2.2) fun v3 =>
 Option.bind (m_record_has (wr .u8 (bitw .and .i64 v1.1 255))) fun v4 =>
 Option.bind (α := (List Int) × Bool × Int) (if v4.1 = true then
 Option.bind (m_record_Read_1 v3.2.1 v3.2.2) fun v5 =>
 some (v5.2.1, v5.2.2, v5.1)
 else
 some (v3.2.1, v3.2.2, 0)) fun (l1, b1, n1) =>
 Option.bind (α := (List Int) × Bool × (List UInt8)) (if (v4.2 = true) ∧ (¬ (b1 = true)) then
 Option.bind (m_num_GetText l1) fun v6 =>
 if (0 ≤ v6.2.1 ∧ v6.2.1 ≤ (l1.length : Int)) then
 some ((l1.drop v6.2.1.toNat), (v6.2.2 != 0), v6.1)
 else none
 else
 some (l1, b1, [])) fun (l2, b2, s1) =>
 Option.bind (if ¬ (((b2 = true) ∨ ((l2.length : Int) > 0)) ∨ (v1.1 > 255)) then m_record_Check (⟨(wr .u8 (bitw .and .i64 v1.1 255)), v2.1, v3.1, n1, s1⟩ : TRecord) else some default) fun v7 =>
 if (((b2 = true) ∨ ((l2.length : Int) > 0)) ∨ (v1.1 > 255)) ∨ (¬ (v7 = 0)) then
 some ((⟨0, 0, 0, 0, []⟩ : TRecord), 8)
 else
 some ((⟨(wr .u8 (bitw .and .i64 v1.1 255)), v2.1, v3.1, n1, s1⟩ : TRecord), 0)
end Go.Proofs
end
section
namespace Go.Proofs
open Go.Tm
abbrev Lens (ls : List Txts) : Prop := ls.length ≤ 4 ∧ ∀ k, (ls.getD k []).length ≤ 200
theorem Lens.big {ls : List Txts} (h : Lens ls) : ∀ k, (ls.getD k []).length ≤ 100000 := fun k => by have := h.2 k; omega
theorem lens_put2 (a0 : TStable) (a1 : TRecord) (r : Int × TStable) (hr : RecOk a1) (hl : Lens a0.Logs) (h : m_stable_put a0 a1 = some r) : Lens r.2.Logs := by
 refine ⟨by rw [lens_stable_put _ _ _ h]; exact hl.1, ?_⟩
 have key : r.2.Logs = a0.Logs ∨ ∃ x : Txts, x.length ≤ 200 ∧ r.2.Logs = a0.Logs.set a1.Group.toNat x := by
  rw [m_stable_put] at h
  split at h
  ·cases h; exact .inl rfl
  ·split at h
   ·split at h
    ·cases h; exact .inl rfl
    ·rename_i hs
     obtain ⟨v1, _, h⟩ := bind_some h
     obtain ⟨⟨n1, n2, n3, n4, s1⟩, _, h⟩ := bind_some h
     simp only at h
     obtain ⟨x2, hx2, h⟩ := bind_some h
     cases x2 with
     | inl q =>
      simp only [Option.some.injEq] at h
      subst h
      split at hx2
      ·obtain ⟨_, _, hx2⟩ := bind_some hx2; cases hx2
      ·split at hx2
       ·obtain ⟨_, _, hx2⟩ := bind_some hx2; cases hx2
       ·rename_i k1 k2
        obtain ⟨_, _, hx2⟩ := bind_some hx2
        cases hx2
        refine .inr ⟨_, ?_, rfl⟩
        obtain ⟨_, hsl, _, hk⟩ := hr
        have k3 : a1.Kind = 3 := by omega
        have hlen := hl.2 a1.Group.toNat
        have ew : wr .i64 (((a0.Logs.getD a1.Group.toNat default).length : Int) + 1) = ((a0.Logs.getD a1.Group.toNat default).length : Int) + 1 := wr_eq _ _ (by show (-9223372036854775808 : Int) ≤ _; omega) (by
         show _ ≤ (9223372036854775807 : Int)
         have : ((a0.Logs.getD a1.Group.toNat default).length : Int) ≤ 200 := Int.ofNat_le.2 hlen
         omega)
        rw [ew] at hs
        simp only [List.length_append, List.length_singleton]
        have h5 : a1.Slot = ((a0.Logs.getD a1.Group.toNat default).length : Int) + 1 := Classical.byContradiction fun k => hs (.inr ⟨k3, k⟩)
        omega
     | inr q =>
      simp only at h
      split at h
      ·cases h; exact .inl rfl
      ·obtain ⟨_, _, h⟩ := bind_some h
       split at h
       ·cases h; exact .inl rfl
       ·cases h
   ·cases h
 intro k
 rcases key with e | ⟨x, hx, e⟩
 ·rw [e]; exact hl.2 k
 ·rw [e, List.getD_eq_getElem?_getD, List.getElem?_set]
  split
  ·split
   ·simpa using hx
   ·simp
  ·have := hl.2 k
   rw [List.getD_eq_getElem?_getD] at this
   exact this
end Go.Proofs
end
section
namespace Go.Proofs
open Go.Tm
set_option linter.unusedVariables false
end Go.Proofs
end
section
namespace Go.Proofs
open Go.Tm
end Go.Proofs
end
section
namespace Go.Proofs
open Go.Tm
set_option linter.unusedSimpArgs false
def voteAt (l : List TSeen) (g k : Int) : TVote := ((l.find? fun y => decide (y.Group = g ∧ y.Slot = k)).map TSeen.Vote).getD zV
def withV (l : List TSeen) (x : TSeen) : List TSeen := bef x l ++ ((if x.Vote = zV then [] else [x]) ++ aft x l)
def logAt (s : TStable) (g : Int) : Txts := s.Logs.getD g.toNat default
def newV (s : TStable) (r : TRecord) : TVote × Int :=
 if r.Kind = 1 then (if askE (voteAt s.Votes r.Group r.Slot) r.Ballot [] = 0 then ⟨r.Ballot, (voteAt s.Votes r.Group r.Slot).Ballot, (voteAt s.Votes r.Group r.Slot).Value⟩ else zV, askE (voteAt s.Votes r.Group r.Slot) r.Ballot [])
 else if r.Kind = 2 then (if askE (voteAt s.Votes r.Group r.Slot) r.Ballot r.Value = 0 then ⟨r.Ballot, r.Ballot, r.Value⟩ else zV, askE (voteAt s.Votes r.Group r.Slot) r.Ballot r.Value)
 else (zV, 0)
def putE (s : TStable) (r : TRecord) : Int := if r.Group ≥ (s.Logs.length : Int) then 6 else if r.Slot ≤ ((logAt s r.Group).length : Int) ∨ (r.Kind = 3 ∧ r.Slot ≠ ((logAt s r.Group).length : Int) + 1) then 8 else (newV s r).2
def putS (s : TStable) (r : TRecord) : TStable := ⟨if r.Kind = 3 then s.Logs.set r.Group.toNat (logAt s r.Group ++ [r.Value]) else s.Logs, withV s.Votes ⟨r.Group, r.Slot, (newV s r).1⟩⟩
theorem find_bef (l : List TSeen) (x : TSeen) : (bef x l).find? (fun y => decide (y.Group = x.Group ∧ y.Slot = x.Slot)) = none := by
 rw [List.find?_eq_none]
 intro y hy
 have := (bef_lt hy).2
 simp only [decide_eq_true_eq]
 unfold ltP at this
 omega
theorem find_aft (l : List TSeen) (x : TSeen) : (aft x l).find? (fun y => decide (y.Group = x.Group ∧ y.Slot = x.Slot)) = none := by
 rw [List.find?_eq_none]
 intro y hy
 have := (aft_lt hy).2
 simp only [decide_eq_true_eq]
 unfold ltP at this
 omega
theorem voteAt_no {l : List TSeen} {x : TSeen} (e : l = bef x l ++ aft x l) : voteAt l x.Group x.Slot = zV := by
 unfold voteAt
 rw [e, List.find?_append, find_bef, find_aft]
 rfl
theorem voteAt_yes {l : List TSeen} {x y : TSeen} (hy : sameP y x) (e : l = bef x l ++ y :: aft x l) : voteAt l x.Group x.Slot = y.Vote := by
 unfold voteAt
 rw [e, List.find?_append, find_bef, List.find?_cons_of_pos (by simpa [sameP] using hy)]
 rfl
theorem getD_at {l A B : List TSeen} {y : TSeen} (e : l = A ++ y :: B) : l.getD A.length default = y := by
 rw [e, List.getD_eq_getElem?_getD, List.getElem?_append_right (Nat.le_refl _), Nat.sub_self]; rfl
theorem wr_i {n : Int} (h1 : -9223372036854775808 ≤ n) (h2 : n ≤ 9223372036854775807) : wr .i64 n = n := wr_eq _ _ (by show (-9223372036854775808 : Int) ≤ _; omega) (by show _ ≤ (9223372036854775807 : Int); omega)
theorem SOk.log {s : TStable} (h : SOk s) {g : Int} (h1 : 0 ≤ g) (h2 : g < (s.Logs.length : Int)) : LogOk (logAt s g) := by
 unfold logAt
 rw [List.getD_eq_getElem?_getD, List.getElem?_eq_getElem (by omega)]
 exact h.l _ (List.getElem_mem _)
theorem put_eq (s : TStable) (r : TRecord) (hs : SOk s) (hr : RecOk r) (hl : s.Votes.length < 900000) : m_stable_put s r = some (putE s r, if putE s r = 0 then putS s r else s) := by
 obtain ⟨hg, hsl, hvl, hk⟩ := hr
 rw [m_stable_put]
 by_cases h1 : r.Group ≥ (s.Logs.length : Int)
 ·have e : putE s r = 6 := by unfold putE; rw [if_pos h1]
  rw [if_pos h1, e]; rfl
 have hlog := hs.log hg.1 (by omega)
 have hll := hlog.1
 have ew : wr .i64 (((s.Logs.getD r.Group.toNat default).length : Int) + 1) = ((logAt s r.Group).length : Int) + 1 := by
  rw [wr_i (by omega) (by unfold logAt at hll; omega)]; rfl
 rw [if_neg h1, if_pos ⟨hg.1, by omega⟩, ew]
 by_cases h2 : r.Slot ≤ ((logAt s r.Group).length : Int) ∨ (r.Kind = 3 ∧ r.Slot ≠ ((logAt s r.Group).length : Int) + 1)
 ·have e : putE s r = 8 := by unfold putE; rw [if_neg h1, if_pos h2]
  rw [e]; exact if_pos h2
 have eE : putE s r = (newV s r).2 := by unfold putE; rw [if_neg h1, if_neg h2]
 refine (if_neg h2).trans ?_
 rw [eE]
 have hx : ∀ v : TVote, bef ⟨r.Group, r.Slot, v⟩ s.Votes = bef ⟨r.Group, r.Slot, zV⟩ s.Votes ∧ aft ⟨r.Group, r.Slot, v⟩ s.Votes = aft ⟨r.Group, r.Slot, zV⟩ s.Votes := fun _ => ⟨rfl, rfl⟩
 -- what the search tells, and what stands there
 obtain ⟨b, V, hfind, hvote, hrest⟩ : ∃ (b : Bool) (R : List TSeen), m_slices_BinarySearchFunc_Seen_Seen_Seen s.Votes (⟨r.Group, r.Slot, ⟨0, 0, []⟩⟩ : TSeen) m_stable_place = some (((bef ⟨r.Group, r.Slot, zV⟩ s.Votes).length : Int), b) ∧
   (if b = true then (if (0 ≤ ((bef ⟨r.Group, r.Slot, zV⟩ s.Votes).length : Int) ∧ ((bef ⟨r.Group, r.Slot, zV⟩ s.Votes).length : Int) < (s.Votes.length : Int)) then some ((s.Votes.getD (((bef ⟨r.Group, r.Slot, zV⟩ s.Votes).length : Int)).toNat default).Group, (s.Votes.getD (((bef ⟨r.Group, r.Slot, zV⟩ s.Votes).length : Int)).toNat default).Slot, (s.Votes.getD (((bef ⟨r.Group, r.Slot, zV⟩ s.Votes).length : Int)).toNat default).Vote.Promised, (s.Votes.getD (((bef ⟨r.Group, r.Slot, zV⟩ s.Votes).length : Int)).toNat default).Vote.Ballot, (s.Votes.getD (((bef ⟨r.Group, r.Slot, zV⟩ s.Votes).length : Int)).toNat default).Vote.Value) else none) else some (r.Group, r.Slot, 0, 0, [])) = some (r.Group, r.Slot, (voteAt s.Votes r.Group r.Slot).Promised, (voteAt s.Votes r.Group r.Slot).Ballot, (voteAt s.Votes r.Group r.Slot).Value) ∧
   s.Votes = bef ⟨r.Group, r.Slot, zV⟩ s.Votes ++ R ∧ (if b = true then ∃ y, R = y :: aft ⟨r.Group, r.Slot, zV⟩ s.Votes else R = aft ⟨r.Group, r.Slot, zV⟩ s.Votes) := by
  rcases find_eq s.Votes ⟨r.Group, r.Slot, zV⟩ (by omega) hs.p with ⟨e, hf⟩ | ⟨y, hy, e, hf⟩
  ·refine ⟨false, _, hf, ?_, e, ?_⟩
   ·have := voteAt_no e
    simp only at this
    rw [this]; rfl
   ·rfl
  ·refine ⟨true, _, hf, ?_, e, ⟨y, rfl⟩⟩
   have := voteAt_yes hy e
   simp only at this
   rw [this, if_pos rfl, Int.toNat_natCast, getD_at e]
   have hlen : (bef ⟨r.Group, r.Slot, zV⟩ s.Votes).length < s.Votes.length := by
    have := congrArg List.length e
    simp only [List.length_append, List.length_cons] at this
    omega
   rw [if_pos ⟨by omega, by omega⟩]
   obtain ⟨y1, y2⟩ := hy
   simp only at y1 y2
   rw [y1, y2]
 rw [hfind]
 simp only [Option.bind_some]
 obtain ⟨hsp, hV⟩ := hrest
 have hlen : (bef ⟨r.Group, r.Slot, zV⟩ s.Votes).length ≤ s.Votes.length := bef_len _ _
 -- the three kinds
 have upd : ∀ (v : TVote), v ≠ zV → (Option.bind (α := (List TSeen)) (if ¬ (b = true) then
   if 0 ≤ ((bef ⟨r.Group, r.Slot, zV⟩ s.Votes).length : Int) ∧ ((bef ⟨r.Group, r.Slot, zV⟩ s.Votes).length : Int) ≤ (s.Votes.length : Int) then
   if s.Votes.length < 1000000 then
   some ((s.Votes.take ((bef ⟨r.Group, r.Slot, zV⟩ s.Votes).length : Int).toNat) ++ ((⟨r.Group, r.Slot, (⟨v.Promised, v.Ballot, v.Value⟩ : TVote)⟩ : TSeen) :: (s.Votes.drop ((bef ⟨r.Group, r.Slot, zV⟩ s.Votes).length : Int).toNat)))
   else none else none else some s.Votes) fun l2 =>
   if (0 ≤ ((bef ⟨r.Group, r.Slot, zV⟩ s.Votes).length : Int) ∧ ((bef ⟨r.Group, r.Slot, zV⟩ s.Votes).length : Int) < (l2.length : Int)) then
   some (0, (⟨s.Logs, (l2.set ((bef ⟨r.Group, r.Slot, zV⟩ s.Votes).length : Int).toNat (⟨r.Group, r.Slot, (⟨v.Promised, v.Ballot, v.Value⟩ : TVote)⟩ : TSeen))⟩ : TStable))
   else none) = some ((0 : Int), (⟨s.Logs, withV s.Votes ⟨r.Group, r.Slot, v⟩⟩ : TStable)) := by
  intro v hv
  have hw : withV s.Votes ⟨r.Group, r.Slot, v⟩ = bef ⟨r.Group, r.Slot, zV⟩ s.Votes ++ ⟨r.Group, r.Slot, v⟩ :: aft ⟨r.Group, r.Slot, zV⟩ s.Votes := by
   unfold withV
   rw [if_neg hv]; rfl
  rw [Int.toNat_natCast]
  cases b with
  | false =>
   simp only [Bool.false_eq_true, if_false] at hV
   subst hV
   rw [if_pos (by simp), if_pos ⟨by omega, by omega⟩, if_pos (by omega)]
   have ht : s.Votes.take (bef ⟨r.Group, r.Slot, zV⟩ s.Votes).length = bef ⟨r.Group, r.Slot, zV⟩ s.Votes := by
    have : ∀ l A B : List TSeen, l = A ++ B → l.take A.length = A := by rintro _ A B rfl; exact List.take_left
    exact this _ _ _ hsp
   have hd : s.Votes.drop (bef ⟨r.Group, r.Slot, zV⟩ s.Votes).length = aft ⟨r.Group, r.Slot, zV⟩ s.Votes := by
    have : ∀ l A B : List TSeen, l = A ++ B → l.drop A.length = B := by rintro _ A B rfl; exact List.drop_left
    exact this _ _ _ hsp
   rw [ht, hd, Option.bind_some, if_pos ⟨by omega, by simp; omega⟩, hw]
   simp
  | true =>
   simp only [if_true] at hV
   obtain ⟨y, rfl⟩ := hV
   rw [if_neg (by simp), Option.bind_some]
   have hlt : (bef ⟨r.Group, r.Slot, zV⟩ s.Votes).length < s.Votes.length := by
    have := congrArg List.length hsp
    simp only [List.length_append, List.length_cons] at this
    omega
   rw [if_pos ⟨by omega, by omega⟩, hw]
   have : ∀ (l A B : List TSeen) (z w : TSeen), l = A ++ z :: B → l.set A.length w = A ++ w :: B := by rintro _ A B z w rfl; simp
   rw [this _ _ _ _ _ hsp]
 have hvv : (⟨(voteAt s.Votes r.Group r.Slot).Promised, (voteAt s.Votes r.Group r.Slot).Ballot, (voteAt s.Votes r.Group r.Slot).Value⟩ : TVote) = voteAt s.Votes r.Group r.Slot := rfl
 refine (congrArg (fun o => Option.bind o _) hvote).trans ?_
 rw [Option.bind_some]
 simp only
 rw [hvv, prepare_eq, accept_eq]
 simp only [Option.bind_some]
 rcases hk with ⟨k, kb, kv⟩ | ⟨k, kb⟩ | ⟨k, kb⟩
 ·have hn : newV s r = (if askE (voteAt s.Votes r.Group r.Slot) r.Ballot [] = 0 then ⟨r.Ballot, (voteAt s.Votes r.Group r.Slot).Ballot, (voteAt s.Votes r.Group r.Slot).Value⟩ else zV, askE (voteAt s.Votes r.Group r.Slot) r.Ballot []) := by unfold newV; rw [if_pos k]
  rw [if_pos k]
  simp only [Option.bind_some]
  by_cases ha : askE (voteAt s.Votes r.Group r.Slot) r.Ballot [] = 0
  ·rw [if_pos ha, if_neg (by simpa using ha)]
   refine (upd ⟨r.Ballot, (voteAt s.Votes r.Group r.Slot).Ballot, (voteAt s.Votes r.Group r.Slot).Value⟩ (fun e => kb.ne (congrArg TVote.Promised e))).trans ?_
   rw [hn]
   simp only
   unfold putS
   rw [hn, if_neg (by omega : ¬ r.Kind = 3)]
   simp only
   rw [if_pos ha, if_pos ha, ha]
  ·rw [if_neg ha, if_pos (by simpa using ha), hn]
   simp only
   rw [if_neg ha]
 ·have hn : newV s r = (if askE (voteAt s.Votes r.Group r.Slot) r.Ballot r.Value = 0 then ⟨r.Ballot, r.Ballot, r.Value⟩ else zV, askE (voteAt s.Votes r.Group r.Slot) r.Ballot r.Value) := by unfold newV; rw [if_neg (by omega), if_pos k]
  rw [if_neg (by omega), if_pos k]
  simp only [Option.bind_some]
  by_cases ha : askE (voteAt s.Votes r.Group r.Slot) r.Ballot r.Value = 0
  ·rw [if_pos ha, if_neg (by simpa using ha)]
   refine (upd ⟨r.Ballot, r.Ballot, r.Value⟩ (fun e => kb.ne (congrArg TVote.Promised e))).trans ?_
   rw [hn]
   simp only
   unfold putS
   rw [hn, if_neg (by omega : ¬ r.Kind = 3)]
   simp only
   rw [if_pos ha, if_pos ha, ha]
  ·rw [if_neg ha, if_pos (by simpa using ha), hn]
   simp only
   rw [if_neg ha]
 ·have hn : newV s r = (zV, 0) := by unfold newV; rw [if_neg (by omega), if_neg (by omega)]
  have hw : withV s.Votes ⟨r.Group, r.Slot, zV⟩ = bef ⟨r.Group, r.Slot, zV⟩ s.Votes ++ aft ⟨r.Group, r.Slot, zV⟩ s.Votes := by
   unfold withV
   rw [if_pos rfl]; rfl
  rw [if_neg (by omega), if_neg (by omega), Int.toNat_natCast]
  have hp : putS s r = ⟨s.Logs.set r.Group.toNat (logAt s r.Group ++ [r.Value]), withV s.Votes ⟨r.Group, r.Slot, zV⟩⟩ := by
   unfold putS
   rw [hn, if_pos k]
  have hE : (if b = true then if 0 ≤ ((bef ⟨r.Group, r.Slot, zV⟩ s.Votes).length : Int) ∧ ((bef ⟨r.Group, r.Slot, zV⟩ s.Votes).length : Int) < (s.Votes.length : Int) then
    if s.Votes.length < 1000000 then some (s.Votes.eraseIdx (bef ⟨r.Group, r.Slot, zV⟩ s.Votes).length) else none else none else some s.Votes) = some (withV s.Votes ⟨r.Group, r.Slot, zV⟩) := by
   cases b with
   | false =>
    simp only [Bool.false_eq_true, if_false] at hV ⊢
    subst hV
    rw [hw, ← hsp]
   | true =>
    simp only [if_true] at hV ⊢
    obtain ⟨y, rfl⟩ := hV
    have hlt : (bef ⟨r.Group, r.Slot, zV⟩ s.Votes).length < s.Votes.length := by
     have := congrArg List.length hsp
     simp only [List.length_append, List.length_cons] at this
     omega
    rw [if_pos ⟨by omega, by omega⟩, if_pos (by omega), hw]
    have : ∀ (l A B : List TSeen) (z : TSeen), l = A ++ z :: B → l.eraseIdx A.length = A ++ B := by
     rintro _ A B z rfl
     rw [List.eraseIdx_append_of_length_le (Nat.le_refl _), Nat.sub_self]; rfl
    rw [this _ _ _ _ hsp]
  rw [hE, hn, hp]
  rfl
end Go.Proofs
end
section
namespace Go.Proofs
open Go.Tm
set_option linter.unusedSimpArgs false
def rd (t : List UInt8) : TRecord × Int := (m_record_Read t).getD (⟨0, 0, 0, 0, []⟩, 8)
end Go.Proofs
end
section
namespace Go.Proofs
open Go.Tm
set_option linter.unusedVariables false
end Go.Proofs
end
section
namespace Go.Proofs
open Go.Tm
set_option linter.unusedSimpArgs false
theorem BOk.pos {b : Int} (h : BOk b) (h1 : -9223372036854775808 ≤ b) (h2 : b ≤ 9223372036854775807) : 8 ≤ b := by
 have h3 := h.1
 by_cases h0 : 0 ≤ b
 ·rw [Int.tdiv_eq_ediv_of_nonneg h0, wr_i (by omega) (by omega)] at h3
  omega
 ·have e : b.tdiv 8 = -((-b) / 8) := by
   rw [← Int.tdiv_eq_ediv_of_nonneg (by omega : 0 ≤ -b), Int.neg_tdiv, Int.neg_neg]
  rw [e, wr_i (by omega) (by omega)] at h3
  omega
theorem Up.app {A B : List TSeen} (h : Up A) (k : Up B) (hab : ∀ a ∈ A, ∀ b ∈ B, ltP a b) : Up (A ++ B) := List.pairwise_append.2 ⟨h, k, hab⟩
theorem Up.bef {l : List TSeen} (h : Up l) (x : TSeen) : Up (bef x l) := List.Pairwise.filter _ h
theorem Up.aft {l : List TSeen} (h : Up l) (x : TSeen) : Up (aft x l) := List.Pairwise.filter _ h
theorem mem_with {l : List TSeen} {x y : TSeen} (h : y ∈ withV l x) : (y = x ∧ x.Vote ≠ zV) ∨ (y ∈ l ∧ ¬ sameP y x) := by
 unfold withV at h
 rw [List.mem_append, List.mem_append] at h
 rcases h with h | h | h
 ·have := bef_lt h; exact .inr ⟨this.1, ltP_ns this.2⟩
 ·split at h
  ·cases h
  ·rename_i hz
   rw [List.mem_singleton] at h
   exact .inl ⟨h, hz⟩
 ·have := aft_lt h; exact .inr ⟨this.1, ltP_ns' this.2⟩
theorem Up.with {l : List TSeen} (h : Up l) (x : TSeen) : Up (withV l x) := by
 unfold withV
 refine (h.bef x).app (Up.app ?_ (h.aft x) ?_) ?_
 ·split
  ·exact List.Pairwise.nil
  ·exact List.pairwise_singleton _ _
 ·intro a ha b hb
  split at ha
  ·cases ha
  ·rw [List.mem_singleton] at ha; subst ha; exact (aft_lt hb).2
 ·intro a ha b hb
  rcases List.mem_append.1 hb with hb | hb
  ·split at hb
   ·cases hb
   ·rw [List.mem_singleton] at hb; subst hb; exact (bef_lt ha).2
  ·exact ltP_trans (bef_lt ha).2 (aft_lt hb).2
theorem VOk.at {s : TStable} (h : SOk s) (g k : Int) : VOk (voteAt s.Votes g k) := by
 unfold voteAt
 cases hf : s.Votes.find? fun y => decide (y.Group = g ∧ y.Slot = k) with
 | none => exact ⟨.inl rfl, by rfl⟩
 | some y => exact (h.v y (List.mem_of_find?_eq_some hf)).2.2.2.2
theorem newV_ok {s : TStable} (_ : SOk s) {r : TRecord} (hr : RecOk r) (h : (newV s r).2 = 0) (hz : (newV s r).1 ≠ zV) : (newV s r).1.Promised ≠ 0 ∧ VOk (newV s r).1 := by
 unfold newV at h hz ⊢
 obtain ⟨_, _, _, h3⟩ := hr
 rcases h3 with ⟨k, b, _⟩ | ⟨k, b⟩ | ⟨k, _⟩
 ·rw [if_pos k] at h ⊢
  simp only at h ⊢
  rw [if_pos h]
  exact ⟨b.ne, VOk.prep (askE_0.1 h)⟩
 ·rw [if_neg (by omega), if_pos k] at h ⊢
  simp only at h ⊢
  rw [if_pos h]
  exact ⟨b.ne, VOk.acc (askE_0.1 h)⟩
 ·rw [if_neg (by omega), if_neg (by omega)] at hz
  exact absurd rfl hz
theorem putE_0 {s : TStable} {r : TRecord} (h : putE s r = 0) : r.Group < (s.Logs.length : Int) ∧ ((logAt s r.Group).length : Int) < r.Slot ∧ (r.Kind = 3 → r.Slot = ((logAt s r.Group).length : Int) + 1) ∧ (newV s r).2 = 0 := by
 unfold putE at h
 split at h
 ·cases h
 ·split at h
  ·cases h
  ·exact ⟨by omega, by omega, fun k => by omega, h⟩
theorem logs_put (s : TStable) (r : TRecord) : (putS s r).Logs.length = s.Logs.length := by
 unfold putS
 simp only
 split
 ·rw [List.length_set]
 ·rfl
theorem getD_set (L : List Txts) (k j : Nat) (x : Txts) (h : k < L.length) : (L.set k x).getD j default = if k = j then x else L.getD j default := by
 rw [List.getD_eq_getElem?_getD, List.getElem?_set]
 split
 ·rename_i e; subst e; simp [h]
 ·rw [List.getD_eq_getElem?_getD]
theorem SOk.put {s : TStable} {r : TRecord} (hs : SOk s) (hr : RecOk r) (h0 : putE s r = 0) : SOk (putS s r) := by
 obtain ⟨h1, h2, h3, h4⟩ := putE_0 h0
 have hl := logs_put s r
 have hg := hr.1
 have hlog := hs.log hg.1 h1
 have hlk : ∀ g : Int, 0 ≤ g → g < (s.Logs.length : Int) → (((putS s r).Logs.getD g.toNat default).length : Int) = ((s.Logs.getD g.toNat default).length : Int) + (if r.Kind = 3 ∧ g = r.Group then 1 else 0) := by
  intro g a b
  unfold putS
  simp only
  by_cases k : r.Kind = 3
  ·rw [if_pos k, getD_set _ _ _ _ (by omega)]
   by_cases e : g = r.Group
   ·rw [if_pos (by rw [e]), if_pos ⟨k, e⟩, e, List.length_append]
    unfold logAt
    simp
   ·rw [if_neg (by omega), if_neg (fun h => e h.2)]; omega
  ·rw [if_neg k, if_neg (fun h => k h.1)]; omega
 refine ⟨by rw [hl]; exact hs.n, ?_, ?_, hs.p.with _⟩
 ·intro l hlm
  unfold putS at hlm
  simp only at hlm
  split at hlm
  ·rename_i k
   rcases List.mem_or_eq_of_mem_set hlm with h | h
   ·exact hs.l l h
   ·subst h
    refine ⟨?_, fun v hv => ?_⟩
    ·have := h3 k
     have := hr.2.1.2
     rw [List.length_append, List.length_singleton]
     omega
    ·rcases List.mem_append.1 hv with h | h
     ·exact hlog.2 v h
     ·rw [List.mem_singleton] at h; subst h; exact hr.2.2.1
  ·exact hs.l l hlm
 ·intro v hv
  rcases mem_with (show v ∈ withV s.Votes _ from hv) with ⟨rfl, hz⟩ | ⟨hm, hns⟩
  ·have hk : r.Kind ≠ 3 := by
    intro k
    refine hz ?_
    show (newV s r).1 = zV
    unfold newV
    rw [if_neg (by omega), if_neg (by omega)]
   obtain ⟨n1, n2⟩ := newV_ok hs hr h4 hz
   refine ⟨⟨hg.1, by rw [hl]; exact h1⟩, ?_, hr.2.1.2, n1, n2⟩
   rw [hlk _ hg.1 h1, if_neg (fun h => hk h.1)]
   have : ((s.Logs.getD r.Group.toNat default).length : Int) < r.Slot := h2
   simp only
   omega
  ·obtain ⟨v1, v2, v3, v4, v5⟩ := hs.v v hm
   refine ⟨⟨v1.1, by rw [hl]; exact v1.2⟩, ?_, v3, v4, v5⟩
   rw [hlk _ v1.1 v1.2]
   split
   ·rename_i k
    have e3 := h3 k.1
    have e4 : ((s.Logs.getD v.Group.toNat default).length : Int) = ((logAt s r.Group).length : Int) := by rw [k.2]; rfl
    have : ¬ (v.Group = r.Group ∧ v.Slot = r.Slot) := hns
    omega
   ·omega
def eStb : TStable := ⟨[], []⟩
theorem apply_eq (s : TStable) (r : TRecord) (hl : s.Votes.length < 900000) : m_stable_Apply s r = some (if SOk s then if RecOk r then if putE s r = 0 then (putS s r, 0) else (eStb, putE s r) else (eStb, 8) else (eStb, 8)) := by
 rw [m_stable_Apply, check_eq]
 simp only [Option.bind_some]
 by_cases hs : SOk s
 ·rw [if_pos hs, if_pos hs, if_neg (by simp), rcheck_eq]
  simp only [Option.bind_some]
  by_cases hr : RecOk r
  ·rw [if_pos hr, if_pos hr, if_neg (by simp), twin_eq s hs hl]
   simp only [Option.bind_some]
   rw [put_eq s r hs hr hl]
   simp only [Option.bind_some]
   by_cases h0 : putE s r = 0
   ·rw [if_pos h0, if_pos h0, if_neg (by simpa using h0)]
   ·rw [if_neg h0, if_neg h0, if_pos (by simpa using h0)]; rfl
  ·rw [if_neg hr, if_neg hr, if_pos (by decide)]; rfl
 ·rw [if_neg hs, if_neg hs, if_pos (by decide)]; rfl
theorem at_eq (s : TStable) (g k : Int) (hl : s.Votes.length < 900000) : m_stable_At s g k = some (if SOk s then if 0 ≤ g ∧ g < (s.Logs.length : Int) then if 1 ≤ k ∧ k ≤ 200 then (voteAt s.Votes g k, 0) else (zV, 2) else (zV, 6) else (zV, 8)) := by
 rw [m_stable_At, check_eq]
 simp only [Option.bind_some]
 by_cases hs : SOk s
 ·rw [if_pos hs, if_pos hs, if_neg (by simp)]
  by_cases h1 : 0 ≤ g ∧ g < (s.Logs.length : Int)
  ·rw [if_neg (by omega), if_pos h1]
   by_cases h2 : 1 ≤ k ∧ k ≤ 200
   ·rw [if_neg (by omega), if_pos h2]
    rcases find_eq s.Votes ⟨g, k, ⟨0, 0, []⟩⟩ (by omega) hs.p with ⟨e, hf⟩ | ⟨y, hy, e, hf⟩
    ·have := voteAt_no e
     simp only at this
     rw [hf, this]
     rfl
    ·have := voteAt_yes hy e
     simp only at this
     rw [hf, this]
     simp only [Option.bind_some, if_true]
     have hlen : (bef ⟨g, k, ⟨0, 0, []⟩⟩ s.Votes).length < s.Votes.length := by
      have := congrArg List.length e
      simp only [List.length_append, List.length_cons] at this
      omega
     rw [if_pos ⟨by omega, by omega⟩, Int.toNat_natCast, getD_at e]
   ·rw [if_pos (by omega), if_neg h2]; rfl
  ·rw [if_pos (by omega), if_neg h1]; rfl
 ·rw [if_neg hs, if_neg hs, if_pos (by decide)]; rfl
theorem gt_loop (l : List Txts) : ∀ n, ∃ r, m_towncrierref11_Great_loop1 l n = some r ∧ ∀ b, r = .inl b → b = true := by
 induction l with
 | nil => intro n; exact ⟨_, rfl, fun b h => by cases h⟩
 | cons y l ih =>
  intro n
  have hg : ∃ b, m_towncrierref01_Great y = some b := by
   have : ∀ (l : Txts) (a : Nat) (b : Int), ∃ c, m_towncrierref01_Great_loop1 l a b = some c := by
    intro l
    induction l with
    | nil => intro a b; exact ⟨_, m_towncrierref01_Great_loop1_n a b⟩
    | cons z l ih =>
     intro a b
     rw [m_towncrierref01_Great_loop1_c]
     split
     ·exact ih _ _
     ·exact ⟨_, rfl⟩
   obtain ⟨c, hc⟩ := this y 0 0
   rw [m_towncrierref01_Great, hc]
   exact ⟨_, rfl⟩
  obtain ⟨b, hb⟩ := hg
  rw [m_towncrierref11_Great_loop1]
  split
  ·rw [hb]
   simp only [Option.bind_some]
   split
   ·exact ⟨_, rfl, fun b h => by cases h; rfl⟩
   ·exact ih _
  ·exact ⟨_, rfl, fun b h => by cases h⟩
theorem great_eq (s : TStable) : ∃ b, m_towncrierref11_Great s = some b ∧ (b = false → s.Votes.length ≤ 1000 ∧ s.Logs.length ≤ 10) := by
 rw [m_towncrierref11_Great]
 obtain ⟨r, hr, hb⟩ := gt_loop s.Logs 0
 rw [hr]
 cases r with
 | inl b => exact ⟨b, rfl, fun h => by rw [hb b rfl] at h; cases h⟩
 | inr u =>
  simp only [Option.bind_some]
  have : ∀ (l : List TSeen) (a : Nat) (b : Int), ∃ c, m_towncrierref11_Great_loop2 l a b = some c := by
   intro l
   induction l with
   | nil => intro a b; exact ⟨_, m_towncrierref11_Great_loop2_n a b⟩
   | cons z l ih =>
    intro a b
    rw [m_towncrierref11_Great_loop2_c]
    split
    ·exact ih _ _
    ·exact ⟨_, rfl⟩
  obtain ⟨c, hc⟩ := this s.Votes 0 0
  rw [hc]
  refine ⟨_, rfl, fun h => ?_⟩
  simp only [Bool.or_eq_false_iff, decide_eq_false_iff_not] at h
  exact ⟨by omega, by omega⟩
theorem st_loop (b : Txts) : ∀ (l : Txts) (n : Nat), b.drop n = l → n + l.length = b.length → m_towncrierref01_SameTexts_loop1 b l n = some (.inr ())
 | [], n, _, _ => by rw [m_towncrierref01_SameTexts_loop1]
 | y :: l, n, h, hl => by
  simp only [List.length_cons] at hl
  have hn : n < b.length := by omega
  have hd := h
  rw [List.drop_eq_getElem_cons hn] at hd
  obtain ⟨hy, hr⟩ := List.cons.inj hd
  have e : b.getD n default = y := by rw [List.getD_eq_getElem?_getD, List.getElem?_eq_getElem hn, hy]; rfl
  rw [m_towncrierref01_SameTexts_loop1, if_pos hn, e, if_neg (by simp), st_loop b l (n + 1) hr (by omega)]
theorem same_refl (l : Txts) : m_towncrierref01_SameTexts l l = some true := by
 rw [m_towncrierref01_SameTexts, if_neg (by simp), st_loop l l 0 rfl (by simp)]
 rfl
end Go.Proofs
end
section
namespace Go.Proofs
open Go.Tm
set_option linter.unusedSimpArgs false
end Go.Proofs
end
section
namespace Go.Proofs
open Go.Tm
set_option linter.unusedVariables false
end Go.Proofs
end
section
namespace Go.Proofs
open Go.Tm
set_option linter.unusedSimpArgs false
theorem i64w {n : Int} (h1 : 0 ≤ n) (h2 : n ≤ 9223372036854775807) : IntKind.i64.wrap n = n := by
 simp [IntKind.wrap, IntKind.bits, IntKind.signed]; omega
def enc (n : Nat) : List Int := if n < 128 then [(n : Int)] else ((n % 128 + 128 : Nat) : Int) :: enc (n / 128)
termination_by n
decreasing_by omega
def Bytes (l : List Int) : Prop := ∀ x ∈ l, 0 ≤ x ∧ x < 256
theorem Bytes.app {a b : List Int} (h : Bytes a) (k : Bytes b) : Bytes (a ++ b) := fun x hx => (List.mem_append.1 hx).elim (h x) (k x)
def pw : Nat → Nat
 | 0 => 1
 | 1 => 128
 | 2 => 16384
 | 3 => 2097152
 | 4 => 268435456
 | 5 => 34359738368
 | _ => 4398046511104
theorem pw_eq {i : Nat} (hi : i ≤ 5) : 2 ^ (7 * i) = pw i := by
 rcases (by omega : i = 0 ∨ i = 1 ∨ i = 2 ∨ i = 3 ∨ i = 4 ∨ i = 5) with rfl | rfl | rfl | rfl | rfl | rfl <;> rfl
theorem pw_le {i : Nat} (hi : i ≤ 5) : pw i ≤ 34359738368 := by
 rcases (by omega : i = 0 ∨ i = 1 ∨ i = 2 ∨ i = 3 ∨ i = 4 ∨ i = 5) with rfl | rfl | rfl | rfl | rfl | rfl <;> decide
theorem shl (x i : Nat) (hx : x < 128) (hi : i ≤ 5) : shw true .i64 (x : Int) (wr .i64 (7 * (i : Int))) = ((x * pw i : Nat) : Int) := by
 rw [wr_i (by omega) (by omega)]
 have hm : min (7 * (i : Int)).toNat 64 = 7 * i := by omega
 have h1 : x * pw i ≤ 127 * 34359738368 := Nat.mul_le_mul (by omega) (pw_le hi)
 unfold shw
 show IntKind.i64.wrap ((x : Int) * ((2 : Nat) : Int) ^ (min (7 * (i : Int)).toNat 64)) = _
 rw [hm, ← Int.natCast_pow, pw_eq hi, ← Int.natCast_mul]
 exact i64w (by omega) (by omega)
theorem BOk.le {b : Int} (h : BOk b) (h1 : -9223372036854775808 ≤ b) (h2 : b ≤ 9223372036854775807) : b ≤ 8388613 := by
 have h3 := h.1
 have h4 := h.pos h1 h2
 rw [Int.tdiv_eq_ediv_of_nonneg (by omega), wr_i (by omega) (by omega)] at h3
 have h5 := h.2.2
 rw [Int.tmod_eq_emod_of_nonneg (by omega)] at h5
 omega
def InR (r : TRecord) : Prop := -9223372036854775808 ≤ r.Ballot ∧ r.Ballot ≤ 9223372036854775807
end Go.Proofs
end
section
namespace Go.Proofs
open Go.Tm
set_option linter.unusedSimpArgs false
def RngV (v : TSeen) : Prop := (-9223372036854775808 ≤ v.Vote.Promised ∧ v.Vote.Promised ≤ 9223372036854775807) ∧ (-9223372036854775808 ≤ v.Vote.Ballot ∧ v.Vote.Ballot ≤ 9223372036854775807)
theorem VOk.z : VOk zV := ⟨.inl rfl, by rfl⟩
end Go.Proofs
end
section
namespace Go.Proofs
open Go.Tm
set_option linter.unusedSimpArgs false
theorem may5 (b : Int) (h1 : -9223372036854775808 ≤ b) (h2 : b ≤ 9223372036854775807) : m_towncrierref05_May b = some (decide (BOk b)) := by
 rw [m_towncrierref05_May]
 congr 1
 rw [Bool.eq_iff_iff]
 simp only [Bool.and_eq_true, decide_eq_true_eq]
 constructor
 ·rintro ⟨⟨a, c⟩, d⟩
  unfold BOk
  rw [Int.tdiv_eq_ediv_of_nonneg (by omega), wr_i (by omega) (by omega)]
  rw [Int.tmod_eq_emod_of_nonneg (by omega)] at d ⊢
  omega
 ·intro h
  exact ⟨⟨h.pos h1 h2, h.le h1 h2⟩, h.2.2⟩
theorem may10 (r : TRecord) (hr : InR r) : m_towncrierref10_May r = some (decide (RecOk r)) := by
 rw [m_towncrierref10_May, may5 _ hr.1 hr.2]
 simp only [Option.bind_some]
 by_cases h1 : (0 ≤ r.Group ∧ r.Group < 4) ∧ (1 ≤ r.Slot ∧ r.Slot ≤ 200)
 ·rw [if_neg (by omega)]
  have h8 : ((r.Value.length : Int) ≤ 1024) ↔ (r.Value.length ≤ 1024) := by omega
  by_cases k1 : r.Kind = 1
  ·rw [if_pos k1]
   congr 1
   rw [Bool.eq_iff_iff]
   unfold RecOk
   simp only [h1, k1, Bool.and_eq_true, decide_eq_true_eq, beq_iff_eq]
   simp
   intro _ b
   rw [b]; simp
  ·rw [if_neg k1]
   by_cases k2 : r.Kind = 2
   ·rw [if_pos k2]
    congr 1
    rw [Bool.eq_iff_iff]
    unfold RecOk
    simp only [h1, k2, Bool.and_eq_true, decide_eq_true_eq]
    simp
    constructor
    ·rintro ⟨a, b⟩; exact ⟨by omega, a⟩
    ·rintro ⟨a, b⟩; exact ⟨b, by omega⟩
   ·rw [if_neg k2]
    by_cases k3 : r.Kind = 3
    ·rw [if_pos k3]
     congr 1
     rw [Bool.eq_iff_iff]
     unfold RecOk
     simp only [h1, k3, Bool.and_eq_true, decide_eq_true_eq, beq_iff_eq]
     simp
     constructor
     ·rintro ⟨a, b⟩; exact ⟨by omega, a⟩
     ·rintro ⟨a, b⟩; exact ⟨b, by omega⟩
    ·rw [if_neg k3, decide_eq_false]
     rintro ⟨_, _, _, ⟨k, _⟩ | ⟨k, _⟩ | ⟨k, _⟩⟩
     ·exact k1 k
     ·exact k2 k
     ·exact k3 k
 ·rw [if_pos (by omega), decide_eq_false]
  rintro ⟨a, b, _⟩
  exact h1 ⟨a, b⟩
end Go.Proofs
end
section
namespace Go.Proofs
open Go.Tm
set_option linter.unusedSimpArgs false
end Go.Proofs
end
section
namespace Go.Proofs
open Go.Tm
set_option linter.unusedVariables false
end Go.Proofs
end
section
namespace Go.Proofs
open Go.Tm
set_option linter.unusedVariables false
end Go.Proofs
end
section
namespace Go.Proofs
open Go.Tm
set_option linter.unusedSimpArgs false
theorem rng_wf {s : TStable} (hw : wf s.d) : ∀ v ∈ s.Votes, RngV v := by
 simp only [TStable.d, wf, wfL, wfL_iff, List.mem_map] at hw
 intro v hv
 have := hw.2.1.2 (by decide) v.d ⟨v, hv, rfl⟩
 simp only [TSeen.d, wf, wfL] at this
 exact ⟨this.2.2.1, this.2.2.2.1⟩
end Go.Proofs
end
section
namespace Go.Proofs
open Go.Tm
set_option linter.unusedSimpArgs false
def RngT (v : TVote) : Prop := (-9223372036854775808 ≤ v.Promised ∧ v.Promised ≤ 9223372036854775807) ∧ (-9223372036854775808 ≤ v.Ballot ∧ v.Ballot ≤ 9223372036854775807)
theorem may7 (v : TVote) (h : RngT v) : m_towncrierref07_May v = some (decide (VOk v)) := by
 rw [m_towncrierref07_May, may5 _ h.1.1 h.1.2, may5 _ h.2.1 h.2.2]
 unfold VOk
 have h8 : ((v.Value.length : Int) ≤ 1024) = (v.Value.length ≤ 1024) := propext (by omega)
 simp only [h8]
 by_cases h1 : v.Promised = 0 <;> by_cases h2 : v.Ballot = 0 <;> by_cases h3 : BOk v.Promised <;> by_cases h4 : BOk v.Ballot <;> by_cases h5 : v.Value = [] <;> by_cases h6 : v.Ballot ≤ v.Promised <;> by_cases h7 : v.Value.length ≤ 1024 <;> simp_all
theorem rasked (v : TVote) (b : Int) (h : RngT v) (h1 : -9223372036854775808 ≤ b) (h2 : b ≤ 9223372036854775807) : m_towncrierref07_asked v b = some (if VOk v then if BOk b then 0 else 50 else 8) := by
 rw [m_towncrierref07_asked, may7 v h, may5 b h1 h2]
 simp only [Option.bind_some]
 by_cases k1 : VOk v <;> by_cases k2 : BOk b <;> simp [k1, k2]
theorem rprepare (v : TVote) (b : Int) (h : RngT v) (h1 : -9223372036854775808 ≤ b) (h2 : b ≤ 9223372036854775807) : m_towncrierref07_Prepare v b = some (if askE v b [] = 0 then ⟨b, v.Ballot, v.Value⟩ else zV, askE v b []) := by
 rw [m_towncrierref07_Prepare, rasked v b h h1 h2]
 simp only [Option.bind_some]
 unfold askE zV
 by_cases k1 : VOk v <;> by_cases k2 : BOk b <;> by_cases k3 : v.Promised ≤ b <;> simp [k1, k2, k3] <;> omega
theorem raccept (v : TVote) (b : Int) (t : List UInt8) (h : RngT v) (h1 : -9223372036854775808 ≤ b) (h2 : b ≤ 9223372036854775807) : m_towncrierref07_Accept v b t = some (if askE v b t = 0 then ⟨b, b, t⟩ else zV, askE v b t) := by
 rw [m_towncrierref07_Accept, rasked v b h h1 h2]
 simp only [Option.bind_some]
 unfold askE zV
 by_cases k1 : VOk v
 ·by_cases k2 : BOk b
  ·by_cases k4 : t.length ≤ 1024
   ·by_cases k3 : v.Promised ≤ b
    ·simp [k1, k2, k3, k4]; rw [if_neg (by omega), if_neg (by omega)]
    ·simp [k1, k2, k3, k4]; rw [if_neg (by omega), if_pos (by omega)]
   ·simp [k1, k2, k4]; omega
  ·simp [k1, k2]
 ·simp [k1]
theorem rahead (a b : TSeen) : m_towncrierref11_ahead a b = some (decide (ltP a b)) := by
 rw [m_towncrierref11_ahead]
 congr 1
 rw [Bool.eq_iff_iff]
 simp only [Bool.or_eq_true, Bool.and_eq_true, decide_eq_true_eq, beq_iff_eq]
 exact Iff.rfl
theorem rck2 (a0 : TStable) (hr : ∀ v ∈ a0.Votes, RngV v) : ∀ (l : List TSeen) (n : Nat), a0.Votes.drop n = l → m_towncrierref11_May_loop2 a0 l n = some (if Good2 a0.Logs (if n = 0 then none else a0.Votes[n - 1]?) l then .inr () else .inl false) := by
 intro l
 induction l with
 | nil =>
  intro n _
  have : ∀ p, Good2 a0.Logs p [] := fun p => by cases p <;> trivial
  rw [m_towncrierref11_May_loop2, if_pos (this _)]
 | cons y l ih =>
  intro n hd
  have hn : n < a0.Votes.length := by
   rcases Nat.lt_or_ge n a0.Votes.length with h | h
   ·exact h
   ·rw [List.drop_of_length_le h] at hd; cases hd
  have hd' := hd
  rw [List.drop_eq_getElem_cons hn] at hd'
  obtain ⟨hy, hrr⟩ := List.cons.inj hd'
  have hR : RngT y.Vote := hr y (by rw [← hy]; exact List.getElem_mem hn)
  have ih := ih (n + 1) hrr
  rw [if_neg (c := n + 1 = 0) (Nat.succ_ne_zero n), show n + 1 - 1 = n from rfl, List.getElem?_eq_getElem hn, hy] at ih
  have hprev : n ≠ 0 → a0.Votes[n - 1]? = some (a0.Votes.getD (n - 1) default) := fun h => by
   rw [List.getD_eq_getElem?_getD, List.getElem?_eq_getElem (by omega)]; rfl
  have hG : Good2 a0.Logs (if n = 0 then none else a0.Votes[n - 1]?) (y :: l) ↔ SeenOk a0.Logs y ∧ (n ≠ 0 → ltP (a0.Votes.getD (n - 1) default) y) ∧ Good2 a0.Logs (some y) l := by
   by_cases h0 : n = 0
   ·rw [if_pos h0, Good2]; exact ⟨fun h => ⟨h.1, fun k => absurd h0 k, h.2⟩, fun h => ⟨h.1, h.2.2⟩⟩
   ·rw [if_neg h0, hprev h0, Good2]; exact ⟨fun h => ⟨h.1, fun _ => h.2.1, h.2.2⟩, fun h => ⟨h.1, h.2.1 h0, h.2.2⟩⟩
  rw [m_towncrierref11_May_loop2, ih, may7 _ hR, rahead, if_pos (by omega)]
  by_cases h1 : 0 ≤ y.Group ∧ y.Group < (a0.Logs.length : Int)
  ·by_cases h2 : ((a0.Logs.getD y.Group.toNat default).length : Int) < y.Slot
   ·by_cases h3 : y.Slot ≤ 200
    ·rw [if_pos (by omega)]
     simp only [Option.bind_some]
     by_cases h5 : VOk y.Vote
     ·by_cases h4 : y.Vote.Promised = 0
      ·have hN : ¬ Good2 a0.Logs (if n = 0 then none else a0.Votes[n - 1]?) (y :: l) := by rw [hG]; rintro ⟨k, _⟩; exact k.2.2.2.1 h4
       rw [if_neg (by simp [h4])]
       simp only [Option.bind_some]
       refine (if_pos (by simp [h4])).trans ?_
       rw [if_neg hN]
      ·have hS : SeenOk a0.Logs y := ⟨h1, h2, h3, h4, h5⟩
       rw [decide_eq_true h5]
       by_cases h0 : n = 0
       ·rw [if_neg (by omega)]
        simp only [Option.bind_some]
        refine (if_neg (by simp only [h0, not_true_eq_false, or_false]; omega)).trans ?_
        congr 1
        have : Good2 a0.Logs (if n = 0 then none else a0.Votes[n - 1]?) (y :: l) ↔ Good2 a0.Logs (some y) l := by rw [hG]; exact ⟨fun h => h.2.2, fun h => ⟨hS, fun k => absurd h0 k, h⟩⟩
        simp only [this]
       ·have hcond : (¬ ((((((y.Group < 0) ∨ (y.Group ≥ (a0.Logs.length : Int))) ∨ (y.Slot > 200)) ∨ (y.Slot ≤ ((a0.Logs.getD (y.Group).toNat default).length : Int))) ∨ (¬ (true = true))) ∨ (y.Vote.Promised = 0))) ∧ ((n : Int) > 0) := ⟨by simp only [not_true_eq_false, or_false]; omega, by omega⟩
        rw [if_pos hcond]
        simp only [Option.bind_some]
        by_cases h6 : ltP (a0.Votes.getD (n - 1) default) y
        ·refine (if_neg (by simp only [not_true_eq_false, or_false, h6, decide_true, and_false]; omega)).trans ?_
         congr 1
         have : Good2 a0.Logs (if n = 0 then none else a0.Votes[n - 1]?) (y :: l) ↔ Good2 a0.Logs (some y) l := by rw [hG]; exact ⟨fun h => h.2.2, fun h => ⟨hS, fun k => h6, h⟩⟩
         simp only [this]
        ·refine (if_pos (.inr ⟨by omega, by rw [decide_eq_false h6]; decide⟩)).trans ?_
         rw [if_neg (by rw [hG]; rintro ⟨_, k, _⟩; exact h6 (k h0))]
     ·have hN : ¬ Good2 a0.Logs (if n = 0 then none else a0.Votes[n - 1]?) (y :: l) := by rw [hG]; rintro ⟨k, _⟩; exact h5 k.2.2.2.2
      rw [decide_eq_false h5, if_neg (by simp)]
      simp only [Option.bind_some]
      refine (if_pos (by simp)).trans ?_
      rw [if_neg hN]
    ·have hN : ¬ Good2 a0.Logs (if n = 0 then none else a0.Votes[n - 1]?) (y :: l) := by rw [hG]; rintro ⟨k, _⟩; exact h3 k.2.2.1
     rw [if_neg (by omega), Option.bind_some, if_neg (by omega), Option.bind_some, if_pos (by omega), if_neg hN]
   ·have hN : ¬ Good2 a0.Logs (if n = 0 then none else a0.Votes[n - 1]?) (y :: l) := by rw [hG]; rintro ⟨k, _⟩; exact h2 k.2.1
    rw [if_neg (by omega), Option.bind_some, if_neg (by omega), Option.bind_some, if_pos (by omega), if_neg hN]
  ·have hN : ¬ Good2 a0.Logs (if n = 0 then none else a0.Votes[n - 1]?) (y :: l) := by rw [hG]; rintro ⟨k, _⟩; exact h1 k.1
   rw [if_neg (by omega), Option.bind_some, if_neg (by omega), Option.bind_some, if_pos (by omega), if_neg hN]
theorem rmay_eq (s : TStable) (hr : ∀ v ∈ s.Votes, RngV v) : m_towncrierref11_May s = some (decide (SOk s)) := by
 rw [m_towncrierref11_May]
 by_cases h1 : 1 ≤ s.Logs.length ∧ s.Logs.length ≤ 4
 ·rw [if_neg (by omega), mk1]
  by_cases h2 : ∀ x ∈ s.Logs, LogOk x
  ·rw [if_pos h2]
   simp only [Option.bind_some]
   rw [rck2 s hr s.Votes 0 rfl, if_pos rfl]
   have e : Good2 s.Logs none s.Votes ↔ SOk s := by
    rw [good2_iff]
    exact ⟨fun h => ⟨h1, h2, h.1, h.2.1⟩, fun h => ⟨h.v, h.p, fun q hq => by cases hq⟩⟩
   by_cases h3 : SOk s
   ·rw [if_pos (e.2 h3), decide_eq_true h3]; rfl
   ·rw [if_neg (fun k => h3 (e.1 k)), decide_eq_false h3]; rfl
  ·rw [if_neg h2, decide_eq_false fun h => h2 h.l]; rfl
 ·rw [if_pos (by omega), decide_eq_false fun h => h1 h.n]
theorem rvote_loop (g k : Int) : ∀ l : List TSeen, m_towncrierref11_Vote_loop1 g k l = some (match l.find? fun y => decide (y.Group = g ∧ y.Slot = k) with | some y => .inl y.Vote | none => .inr ())
 | [] => by rw [m_towncrierref11_Vote_loop1]; rfl
 | y :: l => by
  rw [m_towncrierref11_Vote_loop1]
  by_cases h : y.Group = g ∧ y.Slot = k
  ·rw [if_pos h, List.find?_cons_of_pos (by simpa using h)]
  ·rw [if_neg h, List.find?_cons_of_neg (by simpa using h), rvote_loop g k l]
theorem rvote (l : List TSeen) (g k : Int) : m_towncrierref11_Vote l g k = some (voteAt l g k) := by
 rw [m_towncrierref11_Vote, rvote_loop]
 unfold voteAt
 cases l.find? fun y => decide (y.Group = g ∧ y.Slot = k) <;> rfl
theorem rwith1 (x : TSeen) : ∀ (l acc : List TSeen), acc.length + l.length < 900000 → m_towncrierref11_With_loop1 x l acc = some (acc ++ bef x l)
 | [], acc, _ => by rw [m_towncrierref11_With_loop1_n]; simp [bef]
 | y :: l, acc, h => by
  simp only [List.length_cons] at h
  rw [m_towncrierref11_With_loop1_c, rahead]
  simp only [Option.bind_some]
  by_cases k : ltP y x
  ·rw [if_pos (by simpa using k), if_pos (by simp; omega)]
   simp only [Option.bind_some]
   rw [rwith1 x l _ (by simp; omega)]
   simp [bef, k]
  ·rw [if_neg (by simpa using k)]
   simp only [Option.bind_some]
   rw [rwith1 x l _ (by omega)]
   simp [bef, k]
theorem rwith2 (x : TSeen) : ∀ (l acc : List TSeen), acc.length + l.length < 900000 → m_towncrierref11_With_loop2 x l acc = some (acc ++ aft x l)
 | [], acc, _ => by rw [m_towncrierref11_With_loop2_n]; simp [aft]
 | y :: l, acc, h => by
  simp only [List.length_cons] at h
  rw [m_towncrierref11_With_loop2_c, rahead]
  simp only [Option.bind_some]
  by_cases k : ltP x y
  ·rw [if_pos (by simpa using k), if_pos (by simp; omega)]
   simp only [Option.bind_some]
   rw [rwith2 x l _ (by simp; omega)]
   simp [aft, k]
  ·rw [if_neg (by simpa using k)]
   simp only [Option.bind_some]
   rw [rwith2 x l _ (by omega)]
   simp [aft, k]
theorem rwith (l : List TSeen) (x : TSeen) (h : l.length < 400000) : m_towncrierref11_With l x = some (withV l x) := by
 have hb := bef_len x l
 rw [m_towncrierref11_With, rwith1 x l [] (by simp; omega)]
 simp only [Option.bind_some, List.nil_append]
 have hz : (x.Vote.Promised = 0 ∧ x.Vote.Ballot = 0 ∧ x.Vote.Value = []) ↔ x.Vote = zV := by
  obtain ⟨g, s, a, b, c⟩ := x
  simp [zV]
 unfold withV
 by_cases k : x.Vote = zV
 ·rw [if_neg (fun n => n (hz.2 k)), if_pos k]
  simp only [Option.bind_some]
  rw [rwith2 x l _ (by omega)]
  rfl
 ·rw [if_pos (fun n => k (hz.1 n)), if_neg k, if_pos (by simp; omega)]
  simp only [Option.bind_some]
  rw [rwith2 x l _ (by simp; omega)]
  simp
theorem rtwin_loop : ∀ (l acc : List Txts), (∀ x ∈ l, x.length ≤ 100000) → acc.length + l.length < 1000000 → m_towncrierref11_Twin_loop1 l acc = some (acc ++ l)
 | [], acc, _, _ => by rw [m_towncrierref11_Twin_loop1_n, List.append_nil]
 | y :: l, acc, h, h2 => by
  have hy := h y (List.mem_cons_self ..)
  simp only [List.length_cons] at h2
  rw [m_towncrierref11_Twin_loop1_c, if_pos (by omega), if_pos (by simp; omega), rtwin_loop l _ (fun x hx => h x (List.mem_cons_of_mem _ hx)) (by simp; omega), List.append_assoc]
  rfl
theorem rtwin (s : TStable) (h1 : ∀ x ∈ s.Logs, x.length ≤ 100000) (h2 : s.Logs.length ≤ 10000) (h3 : s.Votes.length < 900000) : m_towncrierref11_Twin s = some s := by
 rw [m_towncrierref11_Twin, if_pos (by omega), rtwin_loop s.Logs [] h1 (by simp; omega)]
 rfl
theorem RngV.at {s : TStable} (h : ∀ v ∈ s.Votes, RngV v) (g k : Int) : RngT (voteAt s.Votes g k) := by
 unfold voteAt
 cases hf : s.Votes.find? fun y => decide (y.Group = g ∧ y.Slot = k) with
 | none => exact ⟨by decide, by decide⟩
 | some y => exact h y (List.mem_of_find?_eq_some hf)
theorem rapply (s : TStable) (r : TRecord) (hs : SOk s) (hr : RecOk r) (hv : ∀ v ∈ s.Votes, RngV v) (hR : InR r) (hl : s.Votes.length < 400000) : m_towncrierref11_Apply s r = some (if putE s r = 0 then (putS s r, 0) else (eStb, putE s r)) := by
 obtain ⟨hg, hsl, hvl, hk⟩ := id hr
 rw [m_towncrierref11_Apply, rmay_eq s hv, may10 r hR]
 simp only [Option.bind_some]
 rw [decide_eq_true hs, if_pos (by simp)]
 simp only [Option.bind_some]
 rw [decide_eq_true hr, if_neg (by simp)]
 by_cases h1 : r.Group ≥ (s.Logs.length : Int)
 ·have e : putE s r = 6 := by unfold putE; rw [if_pos h1]
  rw [if_pos h1, e]; rfl
 have hlog := hs.log hg.1 (by omega)
 have hll := hlog.1
 have ew : wr .i64 (((s.Logs.getD r.Group.toNat default).length : Int) + 1) = ((logAt s r.Group).length : Int) + 1 := by
  rw [wr_i (by omega) (by unfold logAt at hll; omega)]; rfl
 rw [if_neg h1, if_pos ⟨hg.1, by omega⟩, ew]
 by_cases h2 : r.Slot ≤ ((logAt s r.Group).length : Int) ∨ (r.Kind = 3 ∧ r.Slot ≠ ((logAt s r.Group).length : Int) + 1)
 ·have e : putE s r = 8 := by unfold putE; rw [if_neg h1, if_pos h2]
  rw [e]; exact if_pos h2
 have eE : putE s r = (newV s r).2 := by unfold putE; rw [if_neg h1, if_neg h2]
 refine (if_neg h2).trans ?_
 rw [rvote]
 simp only [Option.bind_some]
 rw [rprepare _ _ (RngV.at hv _ _) hR.1 hR.2, raccept _ _ _ (RngV.at hv _ _) hR.1 hR.2]
 simp only [Option.bind_some]
 have hN : (if r.Kind = 1 then some ((if askE (voteAt s.Votes r.Group r.Slot) r.Ballot [] = 0 then (⟨r.Ballot, (voteAt s.Votes r.Group r.Slot).Ballot, (voteAt s.Votes r.Group r.Slot).Value⟩ : TVote) else zV).Promised, (if askE (voteAt s.Votes r.Group r.Slot) r.Ballot [] = 0 then (⟨r.Ballot, (voteAt s.Votes r.Group r.Slot).Ballot, (voteAt s.Votes r.Group r.Slot).Value⟩ : TVote) else zV).Ballot, (if askE (voteAt s.Votes r.Group r.Slot) r.Ballot [] = 0 then (⟨r.Ballot, (voteAt s.Votes r.Group r.Slot).Ballot, (voteAt s.Votes r.Group r.Slot).Value⟩ : TVote) else zV).Value, askE (voteAt s.Votes r.Group r.Slot) r.Ballot [])
   else if r.Kind = 2 then some ((if askE (voteAt s.Votes r.Group r.Slot) r.Ballot r.Value = 0 then (⟨r.Ballot, r.Ballot, r.Value⟩ : TVote) else zV).Promised, (if askE (voteAt s.Votes r.Group r.Slot) r.Ballot r.Value = 0 then (⟨r.Ballot, r.Ballot, r.Value⟩ : TVote) else zV).Ballot, (if askE (voteAt s.Votes r.Group r.Slot) r.Ballot r.Value = 0 then (⟨r.Ballot, r.Ballot, r.Value⟩ : TVote) else zV).Value, askE (voteAt s.Votes r.Group r.Slot) r.Ballot r.Value)
   else if r.Kind = 3 then some ((0 : Int), (0 : Int), ([] : List UInt8), (0 : Int)) else some ((voteAt s.Votes r.Group r.Slot).Promised, (voteAt s.Votes r.Group r.Slot).Ballot, (voteAt s.Votes r.Group r.Slot).Value, 0)) =
   some ((newV s r).1.Promised, (newV s r).1.Ballot, (newV s r).1.Value, (newV s r).2) := by
  unfold newV
  rcases hk with ⟨k, _⟩ | ⟨k, _⟩ | ⟨k, _⟩
  ·rw [if_pos k, if_pos k]
  ·rw [if_neg (show ¬ r.Kind = 1 by omega), if_pos k, if_neg (show ¬ r.Kind = 1 by omega), if_pos k]
  ·rw [if_neg (show ¬ r.Kind = 1 by omega), if_neg (show ¬ r.Kind = 2 by omega), if_pos k, if_neg (show ¬ r.Kind = 1 by omega), if_neg (show ¬ r.Kind = 2 by omega)]; rfl
 refine (congrArg (fun o => Option.bind o _) hN).trans ?_
 rw [Option.bind_some]
 simp only
 have hVe : (⟨(newV s r).1.Promised, (newV s r).1.Ballot, (newV s r).1.Value⟩ : TVote) = (newV s r).1 := rfl
 rw [eE, hVe]
 by_cases h0 : (newV s r).2 = 0
 ·rw [if_neg (by simpa using h0), if_pos h0, rtwin s (fun x hx => by have := (hs.l x hx).1; omega) (by have := hs.n.2; omega) (by omega), rwith _ _ hl]
  simp only [Option.bind_some]
  unfold putS
  by_cases k : r.Kind = 3
  ·rw [if_pos k, if_pos ⟨hg.1, by omega⟩, if_pos k]; rfl
  ·rw [if_neg k, if_neg k]; rfl
 ·rw [if_pos (by simpa using h0), if_neg h0]; rfl
end Go.Proofs
end
section
namespace Go.Proofs
open Go.Tm
set_option linter.unusedSimpArgs false
theorem rsv_loop (b : List TSeen) : ∀ (l : List TSeen) (n : Nat), b.drop n = l → m_towncrierref11_SameVotes_loop1 b l n = some (.inr ())
 | [], n, _ => by rw [m_towncrierref11_SameVotes_loop1]
 | y :: l, n, h => by
  have hn : n < b.length := by
   rcases Nat.lt_or_ge n b.length with h' | h'
   ·exact h'
   ·rw [List.drop_of_length_le h'] at h; cases h
  have hd := h
  rw [List.drop_eq_getElem_cons hn] at hd
  obtain ⟨hy, hr⟩ := List.cons.inj hd
  have e : b.getD n default = y := by rw [List.getD_eq_getElem?_getD, List.getElem?_eq_getElem hn, hy]; rfl
  rw [m_towncrierref11_SameVotes_loop1, if_pos hn, e, if_neg (by simp), rsv_loop b l (n + 1) hr]
theorem rsl_loop (s : TStable) : ∀ (l : List Txts) (n : Nat), s.Logs.drop n = l → m_towncrierref11_Same_loop1 s l n = some (.inr ())
 | [], n, _ => by rw [m_towncrierref11_Same_loop1]
 | y :: l, n, h => by
  have hn : n < s.Logs.length := by
   rcases Nat.lt_or_ge n s.Logs.length with h' | h'
   ·exact h'
   ·rw [List.drop_of_length_le h'] at h; cases h
  have hd := h
  rw [List.drop_eq_getElem_cons hn] at hd
  obtain ⟨hy, hr⟩ := List.cons.inj hd
  have e : s.Logs.getD n default = y := by rw [List.getD_eq_getElem?_getD, List.getElem?_eq_getElem hn, hy]; rfl
  rw [m_towncrierref11_Same_loop1, if_pos hn, e, same_refl]
  simp only [Option.bind_some]
  rw [if_neg (by simp), rsl_loop s l (n + 1) hr]
theorem rsame (s : TStable) : m_towncrierref11_Same s s = some true := by
 have hv : m_towncrierref11_SameVotes s.Votes s.Votes = some true := by
  rw [m_towncrierref11_SameVotes, if_neg (by simp), rsv_loop s.Votes s.Votes 0 rfl]; rfl
 rw [m_towncrierref11_Same, if_pos (by simp), hv]
 simp only [Option.bind_some]
 rw [if_neg (by simp), rsl_loop s s.Logs 0 rfl]
 rfl
theorem great_len (l : Txts) (h : m_towncrierref01_Great l = some false) : l.length ≤ 1000 := by
 rw [m_towncrierref01_Great] at h
 obtain ⟨n, _, h⟩ := bind_some h
 simp only [Option.some.injEq, Bool.or_eq_false_iff, decide_eq_false_iff_not] at h
 omega
theorem gt_loop' : ∀ (l : List Txts) (n : Nat), n + l.length ≤ 20 → m_towncrierref11_Great_loop1 l n = some (.inr ()) → ∀ y ∈ l, y.length ≤ 1000
 | [], _, _, _, y, hy => by cases hy
 | x :: l, n, hn, h, y, hy => by
  simp only [List.length_cons] at hn
  rw [m_towncrierref11_Great_loop1, if_pos (by omega)] at h
  obtain ⟨b, hb, h⟩ := bind_some h
  split at h
  ·cases h
  ·rename_i hc
   have hb0 : b = false := by simpa using hc
   subst hb0
   rcases List.mem_cons.1 hy with rfl | hy
   ·exact great_len _ hb
   ·exact gt_loop' l (n + 1) (by omega) h y hy
theorem great_logs (s : TStable) (h : m_towncrierref11_Great s = some false) : s.Logs.length ≤ 10 ∧ s.Votes.length ≤ 1000 ∧ ∀ y ∈ s.Logs, y.length ≤ 1000 := by
 obtain ⟨b, hb, hl⟩ := great_eq s
 have : b = false := by rw [h] at hb; cases hb; rfl
 obtain ⟨h1, h2⟩ := hl this
 refine ⟨h2, h1, ?_⟩
 rw [m_towncrierref11_Great] at h
 obtain ⟨z, hz, h⟩ := bind_some h
 obtain ⟨r, hr, hrb⟩ := gt_loop s.Logs 0
 rw [hr] at hz
 cases hz
 cases z with
 | inl c =>
  simp only [Option.some.injEq] at h
  subst h
  have := hrb false rfl
  cases this
 | inr u => exact gt_loop' s.Logs 0 (by omega) hr
end Go.Proofs
end
section
namespace Go.Proofs
open Go.Tm Go.RowKit Go.WideShapes
set_option maxRecDepth 100000
set_option maxHeartbeats 4000000
set_option linter.unusedSimpArgs false
set_option linter.unusedVariables false
attribute [local go_sem] argVars runE runK isCallV stepE aop opd opdsL opds opdO ev ofVal keep List.any natbeq Bool.false_or Bool.true_or aggEq cond_true cond_false Bool.cond_false_right Bool.cond_true_left beq_true beq_false imp_self implies_true getR getL put St.app effL del nwB blt_dec Nat.lt_irrefl Nat.lt_add_one ble_dec Nat.le_refl Nat.beq_refl roomNZ appendIn capS capK mkZ_zero mkZL_zero zeroEl D.ids D.idsL bin arith sarith binT dpick Tm.part splice fillD oneD loadD storeD srcD sliceD idxOk decide_true gval dstAt D.cells List.map_cons List.map_nil List.take List.drop List.length_map List.append Int.toNat_natCast and_true true_and decide_false List.length_cons List.length_nil List.append_nil List.nil_append Bool.and_true Bool.true_and Bool.not_false Bool.not_true ne_eq not_false_eq_true BEq.rfl List.getElem?_cons_zero List.getElem?_cons_succ List.getElem?_nil Nat.zero_add List.all_cons List.all_nil List.isEmpty_cons List.isEmpty_nil Option.getD_some Option.getD_none List.any_cons List.any_nil List.drop_succ_cons List.drop_zero unfL unf okM okML low3 List.cons_append true_or or_true Nat.zero_mul Nat.zero_le findD_int findD_str  getD_int getD_str getD_bool Option.isSome_map keyD List.length_replicate List.map_replicate setEl List.length_set bytesD_map map_ub mx_len mkZ_one mkZL_one mkM mkML mk1_int mk1_str mk1_bool drop_map take_map take_map_len List.take_length Int.toNat_zero toNat_pred fpOf metIds opIds mvV mvH mvF pickL D.ren D.renL Blk.ren List.map_append List.length_append Bool.not_not Bool.or_not_self Bool.not_or_self Bool.or_true
attribute [local go_sem] Try.tm_1 Try.tm_2 Try.tm_3 Try.tm_4 Try.tm_5 Try.tm_6 Try.tm_7 Try.tm_8 Try.tm_9 Try.tm_10 Try.tm_11 Try.tm_12 Try.tm_13 Try.tm_14 Try.tm_15 Try.tm_16 Try.tm_17 Try.tm_18 Try.tm_19 Try.tm_20 Try.tm_21 Try.tm_22 Try.tm_23 Try.tm_24 Try.tm_25 Try.tm_26 Try.tm_27 Try.tm_28 Try.tm_29 Try.tm_30 Try.tm_32 Try.tm_33 Try.tm_34 Try.tm_35 Try.tm_36 Try.tm_37 Try.tm_39 Try.tm_40 Try.tm_41 Try.tm_43 Try.tm_45 Try.tm_46 Try.tm_47 Try.tm_48 Try.tm_49 Try.tm_50 Try.tm_51 Try.tm_52 Try.tm_53 Try.tm_55 Try.tm_57 Try.tm_58 Try.tm_60 Try.tm_61 Try.tm_63 Try.tm_64 Try.tm_65 Try.tm_66 Try.tm_67 Try.tm_68 Try.tm_69 Try.tm_70 Try.tm_71 Try.tm_72 Try.tm_73 Try.tm_74 Try.tm_76 Try.tm_77 Try.tm_78 Try.tm_79 Try.tm_80 Try.tm_81 Try.tm_82 Try.tm_83 Try.tm_84 Try.tm_85 Try.tm_86 Try.tm_87 Try.tm_89 Try.tm_91 Try.tm_92 Try.tm_93 Try.tm_94 Try.tm_95 Try.tm_96 Try.tm_98 Try.tm_99 Try.tm_101 Try.tm_103 Try.tm_104 Try.tm_105 Try.tm_106 Try.tm_107 Try.tm_108 Try.tm_109 Try.tm_110 Try.tm_111 Try.tm_112 Try.tm_113 Try.tm_114 Try.tm_115 Try.tm_116 Try.tm_117 Try.tm_118 Try.tm_119 Try.tm_120 Try.tm_121 Try.tm_123 Try.tm_124 Try.tm_125 Try.tm_126 Try.tm_127 Try.tm_128 Try.tm_129 Try.tm_130 Try.tm_132 Try.tm_134 Try.tm_135 Try.tm_136 Try.tm_137 Try.tm_138 Try.tm_139 Try.tm_140 Try.tm_143 Try.tm_144 Try.tm_145 Try.tm_146 Try.tm_147 Try.tm_148 Try.tm_149 Try.tm_150 Try.tm_151 dL_str nL_str TVote.d TSeen.d TStable.d TStable.n TRecord.d mk1_dL_str mk1_TVote mk1_TSeen mk1_TStable mk1_TRecord Ttowncrierref01_Reader.d Ttowncrierref01_Reader.n mk1_Ttowncrierref01_Reader Try.f4
attribute [local go_sem] qrefs outb inb
attribute [local go_sem] Try.f21 inb
def Try.S1_turnX (a : TStable) (c : Nat → Txts) (vs : List TSeen) : St := ⟨[(1, .ptr 20400 0)], [(20400, .box [.ref 20001 1 0 a.Logs.length (some unkC), .ref 20101 5 0 vs.length (some unkC)]), (20001, outb 20110 a.Logs), (20110, .arr 9 1 true ((c 0).map D.str)), (20111, .arr 9 1 true ((c 1).map D.str)), (20112, .arr 9 1 true ((c 2).map D.str)), (20113, .arr 9 1 true ((c 3).map D.str)), (20101, .arr 67 5 true (vs.map TSeen.d))], 20401⟩
attribute [local go_sem] Try.S1_turnX
def Try.S2_turnX (a : TStable) (c : Nat → Txts) (n : Nat) (vs : List TSeen) : St := ⟨[(1, .ptr 20400 0), (2, .int .i64 (n : Int))], [(20400, .box [.ref 20001 1 0 a.Logs.length (some unkC), .ref 20101 5 0 vs.length (some unkC)]), (20001, outb 20110 a.Logs), (20110, .arr 9 1 true ((c 0).map D.str)), (20111, .arr 9 1 true ((c 1).map D.str)), (20112, .arr 9 1 true ((c 2).map D.str)), (20113, .arr 9 1 true ((c 3).map D.str)), (20101, .arr 67 5 true (vs.map TSeen.d))], 20401⟩
attribute [local go_sem] Try.S2_turnX
def Try.S3_turnX (a : TStable) (c : Nat → Txts) (m : Nat) (n : Nat) : St := ⟨[(1, .ptr 20400 0), (3, .int .i64 (n : Int))], [(20400, .box [.ref 20001 1 0 a.Logs.length (some unkC), .ref 20101 5 0 m (some unkC)]), (20001, outb 20110 a.Logs), (20110, .arr 9 1 true ((c 0).map D.str)), (20111, .arr 9 1 true ((c 1).map D.str)), (20112, .arr 9 1 true ((c 2).map D.str)), (20113, .arr 9 1 true ((c 3).map D.str))], 20401⟩
attribute [local go_sem] Try.S3_turnX
def Try.S4_turnX (a : TStable) (c : Nat → Txts) (m : Nat) (n k : Nat) : St := ⟨[(1, .ptr 20400 0), (3, .int .i64 (n : Int)), (4, .int .i64 (k : Int))], [(20400, .box [.ref 20001 1 0 a.Logs.length (some unkC), .ref 20101 5 0 m (some unkC)]), (20001, outb 20110 a.Logs), (20110, .arr 9 1 true ((c 0).map D.str)), (20111, .arr 9 1 true ((c 1).map D.str)), (20112, .arr 9 1 true ((c 2).map D.str)), (20113, .arr 9 1 true ((c 3).map D.str))], 20401⟩
attribute [local go_sem] Try.S4_turnX
theorem callH_turnX (a : TStable) (h4 : a.Logs.length ≤ 4) (h5 : ∀ k, (a.Logs.getD k []).length ≤ 100000) : CallH Try.prog 21 [.agg [.ref 20001 1 0 a.Logs.length (some unkC), .ref 20101 5 0 a.Votes.length (some unkC)]] [(20001, outb 20110 a.Logs), (20110, inb a.Logs 0), (20111, inb a.Logs 1), (20112, inb a.Logs 2), (20113, inb a.Logs 3), (20101, .arr 67 5 true (a.Votes.map TSeen.d))] (.tuple []) [(20001, none), (20110, none), (20111, none), (20112, none), (20113, none), (20101, none)] (20400, 20440) := by
 refine callH_intro' Try.tmOk Try.func21 rfl (by decide) (Nat.le_of_ble_eq_true rfl) (by simp) ?_
 intro hwf
 have hlL : (a.Logs.length : Int) ≤ 9223372036854775807 := by omega
 have hlV : (a.Votes.length : Int) ≤ 9223372036854775807 := by
  simp only [wfL, wf] at hwf
  exact hwf.1.2.1
 clear hwf
 refine .ends 20400 (Nat.le_refl _) ?_
 refine .seq ?_
 refine .pl Try.S [0] ?_
 refine .seqM 20401 (fun (j : List TSeen) => Try.S1_turnX a (fun q => a.Logs.getD q []) j) (fun j => j.length = a.Votes.length) (Nat.le_of_ble_eq_true rfl) ?_ ?_
 ·skip
  refine .seq ?_
  refine .pl Try.S [1] ?_
  refine .block ?_
  refine .loopG 20401 (fun (j : Nat × List TSeen) => Try.S2_turnX a (fun q => a.Logs.getD q []) j.1 j.2) (fun j => j.1 ≤ a.Votes.length ∧ j.2.length = a.Votes.length) (fun j => a.Votes.length - j.1) (0, a.Votes) (Nat.le_of_ble_eq_true rfl) ?_ ⟨Nat.zero_le _, rfl⟩ ?_
  ·skip
   exact .sub [1, 2] [20400, 20001, 20110, 20111, 20112, 20113, 20101]
  rintro ⟨n, vs⟩ ⟨hn, hvs⟩
  simp only [Try.S2_turnX]
  simp only at hn hvs
  refine .seq ?_
  refine .seq ?_
  refine .pl Try.S [1, 2] ?_
  refine .cond rfl rfl (fun hc1 => ?_) (fun hc1 => ?_)
  ·skip
   have h1 : n < vs.length := by simpa using hc1
   have hwn : wr .i64 ((n : Int) + 1) = ((n + 1 : Nat) : Int) := wr_succ (by omega : n < a.Votes.length) hlV
   refine .skip ?_
   refine .seq ?_
   refine .block ?_
   have e1 := nth_map TSeen.d vs n h1
   have es1 := setN_map TSeen.d vs n (⟨vs[n].Group, 77, vs[n].Vote⟩ : TSeen)
   replace es1 : setN (vs.map TSeen.d) n (.agg [.int .i64 vs[n].Group, .int .i64 77, .int .i64 vs[n].Vote.Promised, .int .i64 vs[n].Vote.Ballot, .str vs[n].Vote.Value]) = (vs.set n (⟨vs[n].Group, 77, vs[n].Vote⟩ : TSeen)).map TSeen.d := es1
   refine .plx Try.S (And.intro e1 es1) [1, 2] ?_
   refine .plx Try.S hwn [1, 2] ?_
   refine ⟨(n + 1, vs.set n (⟨vs[n].Group, 77, vs[n].Vote⟩ : TSeen)), ?_, ⟨by dsimp only; omega, by simpa using hvs⟩, by dsimp only; omega⟩
   exact .sub [1, 2] [20400, 20001, 20110, 20111, 20112, 20113, 20101] (h1 := by simp only [go_sem, Nat.reduceBEq, Nat.reduceAdd])
  ·skip
   refine .exit ?_
   refine ⟨vs, ?_, hvs⟩
   exact .sub [1] [20400, 20001, 20110, 20111, 20112, 20113, 20101]
 ·skip
  rintro vs hvs
  simp only [Try.S1_turnX]
  refine .seq ?_
  refine .pl Try.S [1] ?_
  refine .block ?_
  refine .loopG 20401 (fun (j : Nat × (Nat → Txts)) => Try.S3_turnX a j.2 vs.length j.1) (fun j => j.1 ≤ a.Logs.length ∧ ∀ q, (j.2 q).length = (a.Logs.getD q []).length) (fun j => a.Logs.length - j.1) (0, fun q => a.Logs.getD q []) (Nat.le_of_ble_eq_true rfl) ?_ ⟨Nat.zero_le _, fun _ => rfl⟩ ?_
  ·skip
   exact .sub [1, 3] [20400, 20001, 20110, 20111, 20112, 20113]
  rintro ⟨n, c⟩ ⟨hn, hc⟩
  simp only [Try.S3_turnX]
  simp only at hn hc
  refine .seq ?_
  refine .seq ?_
  refine .pl Try.S [1, 3] ?_
  refine .cond rfl rfl (fun hc2 => ?_) (fun hc2 => ?_)
  ·skip
   have h2 : n < a.Logs.length := by simpa using hc2
   have hwn : wr .i64 ((n : Int) + 1) = ((n + 1 : Nat) : Int) := wr_succ h2 hlL
   have hlen := h5 n
   have hqn : (qrefs 1 20110 (a.Logs.map List.length)).length = a.Logs.length := by rw [qrefs_len, List.length_map]
   have e1 : nth (qrefs 1 20110 (a.Logs.map List.length)) n = .ref (20110 + n) 1 0 (a.Logs.getD n []).length (some unkC) := by
    rw [qrefs_nth _ _ _ _ (by rw [List.length_map]; exact h2)]
    congr 1
    rw [List.getD_eq_getElem?_getD, List.getElem?_map, List.getD_eq_getElem?_getD, List.getElem?_eq_getElem h2]
    rfl
   refine .skip ?_
   refine .seqM 20401 (fun (j : Nat → Txts) => Try.S3_turnX a j vs.length n) (fun j => ∀ q, (j q).length = (a.Logs.getD q []).length) (Nat.le_of_ble_eq_true rfl) ?_ (fun c hc => ?_)
   ·skip
    refine .block ?_
    refine .seq ?_
    refine .pl Try.S [1, 3] ?_
    refine .block ?_
    refine .loopG 20401 (fun (j : Nat × (Nat → Txts)) => Try.S4_turnX a j.2 vs.length n j.1) (fun j => j.1 ≤ (a.Logs.getD n []).length ∧ ∀ q, (j.2 q).length = (a.Logs.getD q []).length) (fun j => (a.Logs.getD n []).length - j.1) (0, c) (Nat.le_of_ble_eq_true rfl) ?_ ⟨Nat.zero_le _, hc⟩ ?_
    ·skip
     exact .sub [1, 3, 4] [20400, 20001, 20110, 20111, 20112, 20113]
    rintro ⟨k, c⟩ ⟨hk, hc⟩
    simp only [Try.S4_turnX]
    simp only at hk hc
    refine .seq ?_
    refine .seq ?_
    refine .plx Try.S (And.intro e1 hqn) [1, 3, 4] ?_
    refine .cond rfl rfl (fun hc3 => ?_) (fun hc3 => ?_)
    ·skip
     have h3 : k < (a.Logs.getD n []).length := by simpa using hc3
     have hwk : wr .i64 ((k : Int) + 1) = ((k + 1 : Nat) : Int) := wr_succ h3 (by omega)
     refine .skip ?_
     refine .seq ?_
     refine .block ?_
     rcases (by omega : n = 0 ∨ n = 1 ∨ n = 2 ∨ n = 3) with rfl | rfl | rfl | rfl
     ·have e1 : nth (qrefs 1 20110 (a.Logs.map List.length)) 0 = .ref 20110 1 0 (a.Logs.getD 0 []).length (some unkC) := e1
      have hck : k < (c 0).length := by rw [hc]; exact h3
      have hlk := hc 0
      have es := setN_map D.str (c 0) k [116, 117, 114, 110, 101, 100]
      have e2 := nth_map D.str (c 0) k hck
      refine .plx Try.S (And.intro (And.intro e1 hqn) (And.intro (And.intro es e2) hlk)) [1, 3, 4] ?_ (hv := by simp only [Bool.and_eq_true, decide_eq_true_eq, List.length_map, List.length_cons, List.length_nil, D.cells]; omega)
      refine .plx Try.S hwk [1, 3, 4] ?_
      refine ⟨(k + 1, fun q => if q = 0 then (c 0).set k [116, 117, 114, 110, 101, 100] else c q), ?_, ⟨by dsimp only; omega, fun q => ?_⟩, by dsimp only; omega⟩
      ·exact .sub [1, 3, 4] [20400, 20001, 20110, 20111, 20112, 20113] (h1 := by simp only [go_sem, Nat.reduceBEq, Nat.reduceAdd, Nat.reduceEqDiff, if_true, if_false, reduceIte, es])
      ·dsimp only
       split
       ·rename_i hq
        subst hq
        rw [List.length_set]; exact hc _
       ·exact hc q
     ·have e1 : nth (qrefs 1 20110 (a.Logs.map List.length)) 1 = .ref 20111 1 0 (a.Logs.getD 1 []).length (some unkC) := e1
      have hck : k < (c 1).length := by rw [hc]; exact h3
      have hlk := hc 1
      have es := setN_map D.str (c 1) k [116, 117, 114, 110, 101, 100]
      have e2 := nth_map D.str (c 1) k hck
      refine .plx Try.S (And.intro (And.intro e1 hqn) (And.intro (And.intro es e2) hlk)) [1, 3, 4] ?_ (hv := by simp only [Bool.and_eq_true, decide_eq_true_eq, List.length_map, List.length_cons, List.length_nil, D.cells]; omega)
      refine .plx Try.S hwk [1, 3, 4] ?_
      refine ⟨(k + 1, fun q => if q = 1 then (c 1).set k [116, 117, 114, 110, 101, 100] else c q), ?_, ⟨by dsimp only; omega, fun q => ?_⟩, by dsimp only; omega⟩
      ·exact .sub [1, 3, 4] [20400, 20001, 20110, 20111, 20112, 20113] (h1 := by simp only [go_sem, Nat.reduceBEq, Nat.reduceAdd, Nat.reduceEqDiff, if_true, if_false, reduceIte, es])
      ·dsimp only
       split
       ·rename_i hq
        subst hq
        rw [List.length_set]; exact hc _
       ·exact hc q
     ·have e1 : nth (qrefs 1 20110 (a.Logs.map List.length)) 2 = .ref 20112 1 0 (a.Logs.getD 2 []).length (some unkC) := e1
      have hck : k < (c 2).length := by rw [hc]; exact h3
      have hlk := hc 2
      have es := setN_map D.str (c 2) k [116, 117, 114, 110, 101, 100]
      have e2 := nth_map D.str (c 2) k hck
      refine .plx Try.S (And.intro (And.intro e1 hqn) (And.intro (And.intro es e2) hlk)) [1, 3, 4] ?_ (hv := by simp only [Bool.and_eq_true, decide_eq_true_eq, List.length_map, List.length_cons, List.length_nil, D.cells]; omega)
      refine .plx Try.S hwk [1, 3, 4] ?_
      refine ⟨(k + 1, fun q => if q = 2 then (c 2).set k [116, 117, 114, 110, 101, 100] else c q), ?_, ⟨by dsimp only; omega, fun q => ?_⟩, by dsimp only; omega⟩
      ·exact .sub [1, 3, 4] [20400, 20001, 20110, 20111, 20112, 20113] (h1 := by simp only [go_sem, Nat.reduceBEq, Nat.reduceAdd, Nat.reduceEqDiff, if_true, if_false, reduceIte, es])
      ·dsimp only
       split
       ·rename_i hq
        subst hq
        rw [List.length_set]; exact hc _
       ·exact hc q
     ·have e1 : nth (qrefs 1 20110 (a.Logs.map List.length)) 3 = .ref 20113 1 0 (a.Logs.getD 3 []).length (some unkC) := e1
      have hck : k < (c 3).length := by rw [hc]; exact h3
      have hlk := hc 3
      have es := setN_map D.str (c 3) k [116, 117, 114, 110, 101, 100]
      have e2 := nth_map D.str (c 3) k hck
      refine .plx Try.S (And.intro (And.intro e1 hqn) (And.intro (And.intro es e2) hlk)) [1, 3, 4] ?_ (hv := by simp only [Bool.and_eq_true, decide_eq_true_eq, List.length_map, List.length_cons, List.length_nil, D.cells]; omega)
      refine .plx Try.S hwk [1, 3, 4] ?_
      refine ⟨(k + 1, fun q => if q = 3 then (c 3).set k [116, 117, 114, 110, 101, 100] else c q), ?_, ⟨by dsimp only; omega, fun q => ?_⟩, by dsimp only; omega⟩
      ·exact .sub [1, 3, 4] [20400, 20001, 20110, 20111, 20112, 20113] (h1 := by simp only [go_sem, Nat.reduceBEq, Nat.reduceAdd, Nat.reduceEqDiff, if_true, if_false, reduceIte, es])
      ·dsimp only
       split
       ·rename_i hq
        subst hq
        rw [List.length_set]; exact hc _
       ·exact hc q
    ·skip
     refine .exit ?_
     refine ⟨c, ?_, hc⟩
     exact .sub [1, 3] [20400, 20001, 20110, 20111, 20112, 20113]
   simp only [Try.S3_turnX]
   refine .plx Try.S hwn [1, 3] ?_
   refine ⟨(n + 1, c), ?_, ⟨by dsimp only; omega, hc⟩, by dsimp only; omega⟩
   exact .sub [1, 3] [20400, 20001, 20110, 20111, 20112, 20113]
  ·skip
   refine .exit ?_
   refine ⟨⟨[], [], 20401⟩, ?_, .inl rfl, retH [] ?_ ?_⟩
   ·skip
    exact .sub [] []
   ·exact rsi0
   ·rfl
def Try.S1_turnT (a : TStable) (c : Nat → Txts) (vs : List TSeen) : St := ⟨[(1, .ptr 20500 0)], [(20500, .box [.ref 20301 1 0 a.Logs.length (some unkC), .ref 20302 5 0 vs.length (some unkC)]), (20301, outb 20310 a.Logs), (20310, .arr 9 1 true ((c 0).map D.str)), (20311, .arr 9 1 true ((c 1).map D.str)), (20312, .arr 9 1 true ((c 2).map D.str)), (20313, .arr 9 1 true ((c 3).map D.str)), (20314, .arr 9 1 true ((c 4).map D.str)), (20315, .arr 9 1 true ((c 5).map D.str)), (20316, .arr 9 1 true ((c 6).map D.str)), (20317, .arr 9 1 true ((c 7).map D.str)), (20318, .arr 9 1 true ((c 8).map D.str)), (20319, .arr 9 1 true ((c 9).map D.str)), (20302, .arr 67 5 true (vs.map TSeen.d))], 20501⟩
attribute [local go_sem] Try.S1_turnT
def Try.S2_turnT (a : TStable) (c : Nat → Txts) (n : Nat) (vs : List TSeen) : St := ⟨[(1, .ptr 20500 0), (2, .int .i64 (n : Int))], [(20500, .box [.ref 20301 1 0 a.Logs.length (some unkC), .ref 20302 5 0 vs.length (some unkC)]), (20301, outb 20310 a.Logs), (20310, .arr 9 1 true ((c 0).map D.str)), (20311, .arr 9 1 true ((c 1).map D.str)), (20312, .arr 9 1 true ((c 2).map D.str)), (20313, .arr 9 1 true ((c 3).map D.str)), (20314, .arr 9 1 true ((c 4).map D.str)), (20315, .arr 9 1 true ((c 5).map D.str)), (20316, .arr 9 1 true ((c 6).map D.str)), (20317, .arr 9 1 true ((c 7).map D.str)), (20318, .arr 9 1 true ((c 8).map D.str)), (20319, .arr 9 1 true ((c 9).map D.str)), (20302, .arr 67 5 true (vs.map TSeen.d))], 20501⟩
attribute [local go_sem] Try.S2_turnT
def Try.S3_turnT (a : TStable) (c : Nat → Txts) (m : Nat) (n : Nat) : St := ⟨[(1, .ptr 20500 0), (3, .int .i64 (n : Int))], [(20500, .box [.ref 20301 1 0 a.Logs.length (some unkC), .ref 20302 5 0 m (some unkC)]), (20301, outb 20310 a.Logs), (20310, .arr 9 1 true ((c 0).map D.str)), (20311, .arr 9 1 true ((c 1).map D.str)), (20312, .arr 9 1 true ((c 2).map D.str)), (20313, .arr 9 1 true ((c 3).map D.str)), (20314, .arr 9 1 true ((c 4).map D.str)), (20315, .arr 9 1 true ((c 5).map D.str)), (20316, .arr 9 1 true ((c 6).map D.str)), (20317, .arr 9 1 true ((c 7).map D.str)), (20318, .arr 9 1 true ((c 8).map D.str)), (20319, .arr 9 1 true ((c 9).map D.str))], 20501⟩
attribute [local go_sem] Try.S3_turnT
def Try.S4_turnT (a : TStable) (c : Nat → Txts) (m : Nat) (n k : Nat) : St := ⟨[(1, .ptr 20500 0), (3, .int .i64 (n : Int)), (4, .int .i64 (k : Int))], [(20500, .box [.ref 20301 1 0 a.Logs.length (some unkC), .ref 20302 5 0 m (some unkC)]), (20301, outb 20310 a.Logs), (20310, .arr 9 1 true ((c 0).map D.str)), (20311, .arr 9 1 true ((c 1).map D.str)), (20312, .arr 9 1 true ((c 2).map D.str)), (20313, .arr 9 1 true ((c 3).map D.str)), (20314, .arr 9 1 true ((c 4).map D.str)), (20315, .arr 9 1 true ((c 5).map D.str)), (20316, .arr 9 1 true ((c 6).map D.str)), (20317, .arr 9 1 true ((c 7).map D.str)), (20318, .arr 9 1 true ((c 8).map D.str)), (20319, .arr 9 1 true ((c 9).map D.str))], 20501⟩
attribute [local go_sem] Try.S4_turnT
theorem callH_turnT (a : TStable) (h4 : a.Logs.length ≤ 10) (h5 : ∀ k, (a.Logs.getD k []).length ≤ 100000) : CallH Try.prog 21 [.agg [.ref 20301 1 0 a.Logs.length (some unkC), .ref 20302 5 0 a.Votes.length (some unkC)]] [(20301, outb 20310 a.Logs), (20310, inb a.Logs 0), (20311, inb a.Logs 1), (20312, inb a.Logs 2), (20313, inb a.Logs 3), (20314, inb a.Logs 4), (20315, inb a.Logs 5), (20316, inb a.Logs 6), (20317, inb a.Logs 7), (20318, inb a.Logs 8), (20319, inb a.Logs 9), (20302, .arr 67 5 true (a.Votes.map TSeen.d))] (.tuple []) [(20301, none), (20310, none), (20311, none), (20312, none), (20313, none), (20314, none), (20315, none), (20316, none), (20317, none), (20318, none), (20319, none), (20302, none)] (20500, 20540) := by
 refine callH_intro' Try.tmOk Try.func21 rfl (by decide) (Nat.le_of_ble_eq_true rfl) (by simp) ?_
 intro hwf
 have hlL : (a.Logs.length : Int) ≤ 9223372036854775807 := by omega
 have hlV : (a.Votes.length : Int) ≤ 9223372036854775807 := by
  simp only [wfL, wf] at hwf
  exact hwf.1.2.1
 clear hwf
 refine .ends 20500 (Nat.le_refl _) ?_
 refine .seq ?_
 refine .pl Try.S [0] ?_
 refine .seqM 20501 (fun (j : List TSeen) => Try.S1_turnT a (fun q => a.Logs.getD q []) j) (fun j => j.length = a.Votes.length) (Nat.le_of_ble_eq_true rfl) ?_ ?_
 ·skip
  refine .seq ?_
  refine .pl Try.S [1] ?_
  refine .block ?_
  refine .loopG 20501 (fun (j : Nat × List TSeen) => Try.S2_turnT a (fun q => a.Logs.getD q []) j.1 j.2) (fun j => j.1 ≤ a.Votes.length ∧ j.2.length = a.Votes.length) (fun j => a.Votes.length - j.1) (0, a.Votes) (Nat.le_of_ble_eq_true rfl) ?_ ⟨Nat.zero_le _, rfl⟩ ?_
  ·skip
   exact .sub [1, 2] [20500, 20301, 20310, 20311, 20312, 20313, 20314, 20315, 20316, 20317, 20318, 20319, 20302]
  rintro ⟨n, vs⟩ ⟨hn, hvs⟩
  simp only [Try.S2_turnT]
  simp only at hn hvs
  refine .seq ?_
  refine .seq ?_
  refine .pl Try.S [1, 2] ?_
  refine .cond rfl rfl (fun hc1 => ?_) (fun hc1 => ?_)
  ·skip
   have h1 : n < vs.length := by simpa using hc1
   have hwn : wr .i64 ((n : Int) + 1) = ((n + 1 : Nat) : Int) := wr_succ (by omega : n < a.Votes.length) hlV
   refine .skip ?_
   refine .seq ?_
   refine .block ?_
   have e1 := nth_map TSeen.d vs n h1
   have es1 := setN_map TSeen.d vs n (⟨vs[n].Group, 77, vs[n].Vote⟩ : TSeen)
   replace es1 : setN (vs.map TSeen.d) n (.agg [.int .i64 vs[n].Group, .int .i64 77, .int .i64 vs[n].Vote.Promised, .int .i64 vs[n].Vote.Ballot, .str vs[n].Vote.Value]) = (vs.set n (⟨vs[n].Group, 77, vs[n].Vote⟩ : TSeen)).map TSeen.d := es1
   refine .plx Try.S (And.intro e1 es1) [1, 2] ?_
   refine .plx Try.S hwn [1, 2] ?_
   refine ⟨(n + 1, vs.set n (⟨vs[n].Group, 77, vs[n].Vote⟩ : TSeen)), ?_, ⟨by dsimp only; omega, by simpa using hvs⟩, by dsimp only; omega⟩
   exact .sub [1, 2] [20500, 20301, 20310, 20311, 20312, 20313, 20314, 20315, 20316, 20317, 20318, 20319, 20302] (h1 := by simp only [go_sem, Nat.reduceBEq, Nat.reduceAdd])
  ·skip
   refine .exit ?_
   refine ⟨vs, ?_, hvs⟩
   exact .sub [1] [20500, 20301, 20310, 20311, 20312, 20313, 20314, 20315, 20316, 20317, 20318, 20319, 20302]
 ·skip
  rintro vs hvs
  simp only [Try.S1_turnT]
  refine .seq ?_
  refine .pl Try.S [1] ?_
  refine .block ?_
  refine .loopG 20501 (fun (j : Nat × (Nat → Txts)) => Try.S3_turnT a j.2 vs.length j.1) (fun j => j.1 ≤ a.Logs.length ∧ ∀ q, (j.2 q).length = (a.Logs.getD q []).length) (fun j => a.Logs.length - j.1) (0, fun q => a.Logs.getD q []) (Nat.le_of_ble_eq_true rfl) ?_ ⟨Nat.zero_le _, fun _ => rfl⟩ ?_
  ·skip
   exact .sub [1, 3] [20500, 20301, 20310, 20311, 20312, 20313, 20314, 20315, 20316, 20317, 20318, 20319]
  rintro ⟨n, c⟩ ⟨hn, hc⟩
  simp only [Try.S3_turnT]
  simp only at hn hc
  refine .seq ?_
  refine .seq ?_
  refine .pl Try.S [1, 3] ?_
  refine .cond rfl rfl (fun hc2 => ?_) (fun hc2 => ?_)
  ·skip
   have h2 : n < a.Logs.length := by simpa using hc2
   have hwn : wr .i64 ((n : Int) + 1) = ((n + 1 : Nat) : Int) := wr_succ h2 hlL
   have hlen := h5 n
   have hqn : (qrefs 1 20310 (a.Logs.map List.length)).length = a.Logs.length := by rw [qrefs_len, List.length_map]
   have e1 : nth (qrefs 1 20310 (a.Logs.map List.length)) n = .ref (20310 + n) 1 0 (a.Logs.getD n []).length (some unkC) := by
    rw [qrefs_nth _ _ _ _ (by rw [List.length_map]; exact h2)]
    congr 1
    rw [List.getD_eq_getElem?_getD, List.getElem?_map, List.getD_eq_getElem?_getD, List.getElem?_eq_getElem h2]
    rfl
   refine .skip ?_
   refine .seqM 20501 (fun (j : Nat → Txts) => Try.S3_turnT a j vs.length n) (fun j => ∀ q, (j q).length = (a.Logs.getD q []).length) (Nat.le_of_ble_eq_true rfl) ?_ (fun c hc => ?_)
   ·skip
    refine .block ?_
    refine .seq ?_
    refine .pl Try.S [1, 3] ?_
    refine .block ?_
    refine .loopG 20501 (fun (j : Nat × (Nat → Txts)) => Try.S4_turnT a j.2 vs.length n j.1) (fun j => j.1 ≤ (a.Logs.getD n []).length ∧ ∀ q, (j.2 q).length = (a.Logs.getD q []).length) (fun j => (a.Logs.getD n []).length - j.1) (0, c) (Nat.le_of_ble_eq_true rfl) ?_ ⟨Nat.zero_le _, hc⟩ ?_
    ·skip
     exact .sub [1, 3, 4] [20500, 20301, 20310, 20311, 20312, 20313, 20314, 20315, 20316, 20317, 20318, 20319]
    rintro ⟨k, c⟩ ⟨hk, hc⟩
    simp only [Try.S4_turnT]
    simp only at hk hc
    refine .seq ?_
    refine .seq ?_
    refine .plx Try.S (And.intro e1 hqn) [1, 3, 4] ?_
    refine .cond rfl rfl (fun hc3 => ?_) (fun hc3 => ?_)
    ·skip
     have h3 : k < (a.Logs.getD n []).length := by simpa using hc3
     have hwk : wr .i64 ((k : Int) + 1) = ((k + 1 : Nat) : Int) := wr_succ h3 (by omega)
     refine .skip ?_
     refine .seq ?_
     refine .block ?_
     rcases (by omega : n = 0 ∨ n = 1 ∨ n = 2 ∨ n = 3 ∨ n = 4 ∨ n = 5 ∨ n = 6 ∨ n = 7 ∨ n = 8 ∨ n = 9) with rfl | rfl | rfl | rfl | rfl | rfl | rfl | rfl | rfl | rfl
     ·have e1 : nth (qrefs 1 20310 (a.Logs.map List.length)) 0 = .ref 20310 1 0 (a.Logs.getD 0 []).length (some unkC) := e1
      have hck : k < (c 0).length := by rw [hc]; exact h3
      have hlk := hc 0
      have es := setN_map D.str (c 0) k [116, 117, 114, 110, 101, 100]
      have e2 := nth_map D.str (c 0) k hck
      refine .plx Try.S (And.intro (And.intro e1 hqn) (And.intro (And.intro es e2) hlk)) [1, 3, 4] ?_ (hv := by simp only [Bool.and_eq_true, decide_eq_true_eq, List.length_map, List.length_cons, List.length_nil, D.cells]; omega)
      refine .plx Try.S hwk [1, 3, 4] ?_
      refine ⟨(k + 1, fun q => if q = 0 then (c 0).set k [116, 117, 114, 110, 101, 100] else c q), ?_, ⟨by dsimp only; omega, fun q => ?_⟩, by dsimp only; omega⟩
      ·exact .sub [1, 3, 4] [20500, 20301, 20310, 20311, 20312, 20313, 20314, 20315, 20316, 20317, 20318, 20319] (h1 := by simp only [go_sem, Nat.reduceBEq, Nat.reduceAdd, Nat.reduceEqDiff, if_true, if_false, reduceIte, es])
      ·dsimp only
       split
       ·rename_i hq
        subst hq
        rw [List.length_set]; exact hc _
       ·exact hc q
     ·have e1 : nth (qrefs 1 20310 (a.Logs.map List.length)) 1 = .ref 20311 1 0 (a.Logs.getD 1 []).length (some unkC) := e1
      have hck : k < (c 1).length := by rw [hc]; exact h3
      have hlk := hc 1
      have es := setN_map D.str (c 1) k [116, 117, 114, 110, 101, 100]
      have e2 := nth_map D.str (c 1) k hck
      refine .plx Try.S (And.intro (And.intro e1 hqn) (And.intro (And.intro es e2) hlk)) [1, 3, 4] ?_ (hv := by simp only [Bool.and_eq_true, decide_eq_true_eq, List.length_map, List.length_cons, List.length_nil, D.cells]; omega)
      refine .plx Try.S hwk [1, 3, 4] ?_
      refine ⟨(k + 1, fun q => if q = 1 then (c 1).set k [116, 117, 114, 110, 101, 100] else c q), ?_, ⟨by dsimp only; omega, fun q => ?_⟩, by dsimp only; omega⟩
      ·exact .sub [1, 3, 4] [20500, 20301, 20310, 20311, 20312, 20313, 20314, 20315, 20316, 20317, 20318, 20319] (h1 := by simp only [go_sem, Nat.reduceBEq, Nat.reduceAdd, Nat.reduceEqDiff, if_true, if_false, reduceIte, es])
      ·dsimp only
       split
       ·rename_i hq
        subst hq
        rw [List.length_set]; exact hc _
       ·exact hc q
     ·have e1 : nth (qrefs 1 20310 (a.Logs.map List.length)) 2 = .ref 20312 1 0 (a.Logs.getD 2 []).length (some unkC) := e1
      have hck : k < (c 2).length := by rw [hc]; exact h3
      have hlk := hc 2
      have es := setN_map D.str (c 2) k [116, 117, 114, 110, 101, 100]
      have e2 := nth_map D.str (c 2) k hck
      refine .plx Try.S (And.intro (And.intro e1 hqn) (And.intro (And.intro es e2) hlk)) [1, 3, 4] ?_ (hv := by simp only [Bool.and_eq_true, decide_eq_true_eq, List.length_map, List.length_cons, List.length_nil, D.cells]; omega)
      refine .plx Try.S hwk [1, 3, 4] ?_
      refine ⟨(k + 1, fun q => if q = 2 then (c 2).set k [116, 117, 114, 110, 101, 100] else c q), ?_, ⟨by dsimp only; omega, fun q => ?_⟩, by dsimp only; omega⟩
      ·exact .sub [1, 3, 4] [20500, 20301, 20310, 20311, 20312, 20313, 20314, 20315, 20316, 20317, 20318, 20319] (h1 := by simp only [go_sem, Nat.reduceBEq, Nat.reduceAdd, Nat.reduceEqDiff, if_true, if_false, reduceIte, es])
      ·dsimp only
       split
       ·rename_i hq
        subst hq
        rw [List.length_set]; exact hc _
       ·exact hc q
     ·have e1 : nth (qrefs 1 20310 (a.Logs.map List.length)) 3 = .ref 20313 1 0 (a.Logs.getD 3 []).length (some unkC) := e1
      have hck : k < (c 3).length := by rw [hc]; exact h3
      have hlk := hc 3
      have es := setN_map D.str (c 3) k [116, 117, 114, 110, 101, 100]
      have e2 := nth_map D.str (c 3) k hck
      refine .plx Try.S (And.intro (And.intro e1 hqn) (And.intro (And.intro es e2) hlk)) [1, 3, 4] ?_ (hv := by simp only [Bool.and_eq_true, decide_eq_true_eq, List.length_map, List.length_cons, List.length_nil, D.cells]; omega)
      refine .plx Try.S hwk [1, 3, 4] ?_
      refine ⟨(k + 1, fun q => if q = 3 then (c 3).set k [116, 117, 114, 110, 101, 100] else c q), ?_, ⟨by dsimp only; omega, fun q => ?_⟩, by dsimp only; omega⟩
      ·exact .sub [1, 3, 4] [20500, 20301, 20310, 20311, 20312, 20313, 20314, 20315, 20316, 20317, 20318, 20319] (h1 := by simp only [go_sem, Nat.reduceBEq, Nat.reduceAdd, Nat.reduceEqDiff, if_true, if_false, reduceIte, es])
      ·dsimp only
       split
       ·rename_i hq
        subst hq
        rw [List.length_set]; exact hc _
       ·exact hc q
     ·have e1 : nth (qrefs 1 20310 (a.Logs.map List.length)) 4 = .ref 20314 1 0 (a.Logs.getD 4 []).length (some unkC) := e1
      have hck : k < (c 4).length := by rw [hc]; exact h3
      have hlk := hc 4
      have es := setN_map D.str (c 4) k [116, 117, 114, 110, 101, 100]
      have e2 := nth_map D.str (c 4) k hck
      refine .plx Try.S (And.intro (And.intro e1 hqn) (And.intro (And.intro es e2) hlk)) [1, 3, 4] ?_ (hv := by simp only [Bool.and_eq_true, decide_eq_true_eq, List.length_map, List.length_cons, List.length_nil, D.cells]; omega)
      refine .plx Try.S hwk [1, 3, 4] ?_
      refine ⟨(k + 1, fun q => if q = 4 then (c 4).set k [116, 117, 114, 110, 101, 100] else c q), ?_, ⟨by dsimp only; omega, fun q => ?_⟩, by dsimp only; omega⟩
      ·exact .sub [1, 3, 4] [20500, 20301, 20310, 20311, 20312, 20313, 20314, 20315, 20316, 20317, 20318, 20319] (h1 := by simp only [go_sem, Nat.reduceBEq, Nat.reduceAdd, Nat.reduceEqDiff, if_true, if_false, reduceIte, es])
      ·dsimp only
       split
       ·rename_i hq
        subst hq
        rw [List.length_set]; exact hc _
       ·exact hc q
     ·have e1 : nth (qrefs 1 20310 (a.Logs.map List.length)) 5 = .ref 20315 1 0 (a.Logs.getD 5 []).length (some unkC) := e1
      have hck : k < (c 5).length := by rw [hc]; exact h3
      have hlk := hc 5
      have es := setN_map D.str (c 5) k [116, 117, 114, 110, 101, 100]
      have e2 := nth_map D.str (c 5) k hck
      refine .plx Try.S (And.intro (And.intro e1 hqn) (And.intro (And.intro es e2) hlk)) [1, 3, 4] ?_ (hv := by simp only [Bool.and_eq_true, decide_eq_true_eq, List.length_map, List.length_cons, List.length_nil, D.cells]; omega)
      refine .plx Try.S hwk [1, 3, 4] ?_
      refine ⟨(k + 1, fun q => if q = 5 then (c 5).set k [116, 117, 114, 110, 101, 100] else c q), ?_, ⟨by dsimp only; omega, fun q => ?_⟩, by dsimp only; omega⟩
      ·exact .sub [1, 3, 4] [20500, 20301, 20310, 20311, 20312, 20313, 20314, 20315, 20316, 20317, 20318, 20319] (h1 := by simp only [go_sem, Nat.reduceBEq, Nat.reduceAdd, Nat.reduceEqDiff, if_true, if_false, reduceIte, es])
      ·dsimp only
       split
       ·rename_i hq
        subst hq
        rw [List.length_set]; exact hc _
       ·exact hc q
     ·have e1 : nth (qrefs 1 20310 (a.Logs.map List.length)) 6 = .ref 20316 1 0 (a.Logs.getD 6 []).length (some unkC) := e1
      have hck : k < (c 6).length := by rw [hc]; exact h3
      have hlk := hc 6
      have es := setN_map D.str (c 6) k [116, 117, 114, 110, 101, 100]
      have e2 := nth_map D.str (c 6) k hck
      refine .plx Try.S (And.intro (And.intro e1 hqn) (And.intro (And.intro es e2) hlk)) [1, 3, 4] ?_ (hv := by simp only [Bool.and_eq_true, decide_eq_true_eq, List.length_map, List.length_cons, List.length_nil, D.cells]; omega)
      refine .plx Try.S hwk [1, 3, 4] ?_
      refine ⟨(k + 1, fun q => if q = 6 then (c 6).set k [116, 117, 114, 110, 101, 100] else c q), ?_, ⟨by dsimp only; omega, fun q => ?_⟩, by dsimp only; omega⟩
      ·exact .sub [1, 3, 4] [20500, 20301, 20310, 20311, 20312, 20313, 20314, 20315, 20316, 20317, 20318, 20319] (h1 := by simp only [go_sem, Nat.reduceBEq, Nat.reduceAdd, Nat.reduceEqDiff, if_true, if_false, reduceIte, es])
      ·dsimp only
       split
       ·rename_i hq
        subst hq
        rw [List.length_set]; exact hc _
       ·exact hc q
     ·have e1 : nth (qrefs 1 20310 (a.Logs.map List.length)) 7 = .ref 20317 1 0 (a.Logs.getD 7 []).length (some unkC) := e1
      have hck : k < (c 7).length := by rw [hc]; exact h3
      have hlk := hc 7
      have es := setN_map D.str (c 7) k [116, 117, 114, 110, 101, 100]
      have e2 := nth_map D.str (c 7) k hck
      refine .plx Try.S (And.intro (And.intro e1 hqn) (And.intro (And.intro es e2) hlk)) [1, 3, 4] ?_ (hv := by simp only [Bool.and_eq_true, decide_eq_true_eq, List.length_map, List.length_cons, List.length_nil, D.cells]; omega)
      refine .plx Try.S hwk [1, 3, 4] ?_
      refine ⟨(k + 1, fun q => if q = 7 then (c 7).set k [116, 117, 114, 110, 101, 100] else c q), ?_, ⟨by dsimp only; omega, fun q => ?_⟩, by dsimp only; omega⟩
      ·exact .sub [1, 3, 4] [20500, 20301, 20310, 20311, 20312, 20313, 20314, 20315, 20316, 20317, 20318, 20319] (h1 := by simp only [go_sem, Nat.reduceBEq, Nat.reduceAdd, Nat.reduceEqDiff, if_true, if_false, reduceIte, es])
      ·dsimp only
       split
       ·rename_i hq
        subst hq
        rw [List.length_set]; exact hc _
       ·exact hc q
     ·have e1 : nth (qrefs 1 20310 (a.Logs.map List.length)) 8 = .ref 20318 1 0 (a.Logs.getD 8 []).length (some unkC) := e1
      have hck : k < (c 8).length := by rw [hc]; exact h3
      have hlk := hc 8
      have es := setN_map D.str (c 8) k [116, 117, 114, 110, 101, 100]
      have e2 := nth_map D.str (c 8) k hck
      refine .plx Try.S (And.intro (And.intro e1 hqn) (And.intro (And.intro es e2) hlk)) [1, 3, 4] ?_ (hv := by simp only [Bool.and_eq_true, decide_eq_true_eq, List.length_map, List.length_cons, List.length_nil, D.cells]; omega)
      refine .plx Try.S hwk [1, 3, 4] ?_
      refine ⟨(k + 1, fun q => if q = 8 then (c 8).set k [116, 117, 114, 110, 101, 100] else c q), ?_, ⟨by dsimp only; omega, fun q => ?_⟩, by dsimp only; omega⟩
      ·exact .sub [1, 3, 4] [20500, 20301, 20310, 20311, 20312, 20313, 20314, 20315, 20316, 20317, 20318, 20319] (h1 := by simp only [go_sem, Nat.reduceBEq, Nat.reduceAdd, Nat.reduceEqDiff, if_true, if_false, reduceIte, es])
      ·dsimp only
       split
       ·rename_i hq
        subst hq
        rw [List.length_set]; exact hc _
       ·exact hc q
     ·have e1 : nth (qrefs 1 20310 (a.Logs.map List.length)) 9 = .ref 20319 1 0 (a.Logs.getD 9 []).length (some unkC) := e1
      have hck : k < (c 9).length := by rw [hc]; exact h3
      have hlk := hc 9
      have es := setN_map D.str (c 9) k [116, 117, 114, 110, 101, 100]
      have e2 := nth_map D.str (c 9) k hck
      refine .plx Try.S (And.intro (And.intro e1 hqn) (And.intro (And.intro es e2) hlk)) [1, 3, 4] ?_ (hv := by simp only [Bool.and_eq_true, decide_eq_true_eq, List.length_map, List.length_cons, List.length_nil, D.cells]; omega)
      refine .plx Try.S hwk [1, 3, 4] ?_
      refine ⟨(k + 1, fun q => if q = 9 then (c 9).set k [116, 117, 114, 110, 101, 100] else c q), ?_, ⟨by dsimp only; omega, fun q => ?_⟩, by dsimp only; omega⟩
      ·exact .sub [1, 3, 4] [20500, 20301, 20310, 20311, 20312, 20313, 20314, 20315, 20316, 20317, 20318, 20319] (h1 := by simp only [go_sem, Nat.reduceBEq, Nat.reduceAdd, Nat.reduceEqDiff, if_true, if_false, reduceIte, es])
      ·dsimp only
       split
       ·rename_i hq
        subst hq
        rw [List.length_set]; exact hc _
       ·exact hc q
    ·skip
     refine .exit ?_
     refine ⟨c, ?_, hc⟩
     exact .sub [1, 3] [20500, 20301, 20310, 20311, 20312, 20313, 20314, 20315, 20316, 20317, 20318, 20319]
   simp only [Try.S3_turnT]
   refine .plx Try.S hwn [1, 3] ?_
   refine ⟨(n + 1, c), ?_, ⟨by dsimp only; omega, hc⟩, by dsimp only; omega⟩
   exact .sub [1, 3] [20500, 20301, 20310, 20311, 20312, 20313, 20314, 20315, 20316, 20317, 20318, 20319]
  ·skip
   refine .exit ?_
   refine ⟨⟨[], [], 20501⟩, ?_, .inl rfl, retH [] ?_ ?_⟩
   ·skip
    exact .sub [] []
   ·exact rsi0
   ·rfl
end Go.Proofs
end
section
namespace Go.Proofs
open Go.Tm Go.RowKit Go.WideShapes
set_option maxRecDepth 100000
set_option maxHeartbeats 4000000
set_option linter.unusedSimpArgs false
set_option linter.unusedVariables false
attribute [local go_sem] argVars runE runK isCallV stepE aop opd opdsL opds opdO ev ofVal keep List.any natbeq Bool.false_or Bool.true_or aggEq cond_true cond_false Bool.cond_false_right Bool.cond_true_left beq_true beq_false imp_self implies_true getR getL put St.app effL del nwB blt_dec Nat.lt_irrefl Nat.lt_add_one ble_dec Nat.le_refl Nat.beq_refl roomNZ appendIn capS capK mkZ_zero mkZL_zero zeroEl D.ids D.idsL bin arith sarith binT dpick Tm.part splice fillD oneD loadD storeD srcD sliceD idxOk decide_true gval dstAt D.cells List.map_cons List.map_nil List.take List.drop List.length_map List.append Int.toNat_natCast and_true true_and decide_false List.length_cons List.length_nil List.append_nil List.nil_append Bool.and_true Bool.true_and Bool.not_false Bool.not_true ne_eq not_false_eq_true BEq.rfl List.getElem?_cons_zero List.getElem?_cons_succ List.getElem?_nil Nat.zero_add List.all_cons List.all_nil List.isEmpty_cons List.isEmpty_nil Option.getD_some Option.getD_none List.any_cons List.any_nil List.drop_succ_cons List.drop_zero unfL unf okM okML low3 List.cons_append true_or or_true Nat.zero_mul Nat.zero_le findD_int findD_str  getD_int getD_str getD_bool Option.isSome_map keyD List.length_replicate List.map_replicate setEl List.length_set bytesD_map map_ub mx_len mkZ_one mkZL_one mkM mkML mk1_int mk1_str mk1_bool drop_map take_map take_map_len List.take_length Int.toNat_zero toNat_pred fpOf metIds opIds mvV mvH mvF pickL D.ren D.renL Blk.ren List.map_append List.length_append Bool.not_not Bool.or_not_self Bool.not_or_self Bool.or_true
attribute [local go_sem] Try.tm_1 Try.tm_2 Try.tm_3 Try.tm_4 Try.tm_5 Try.tm_6 Try.tm_7 Try.tm_8 Try.tm_9 Try.tm_10 Try.tm_11 Try.tm_12 Try.tm_13 Try.tm_14 Try.tm_15 Try.tm_16 Try.tm_17 Try.tm_18 Try.tm_19 Try.tm_20 Try.tm_21 Try.tm_22 Try.tm_23 Try.tm_24 Try.tm_25 Try.tm_26 Try.tm_27 Try.tm_28 Try.tm_29 Try.tm_30 Try.tm_32 Try.tm_33 Try.tm_34 Try.tm_35 Try.tm_36 Try.tm_37 Try.tm_39 Try.tm_40 Try.tm_41 Try.tm_43 Try.tm_45 Try.tm_46 Try.tm_47 Try.tm_48 Try.tm_49 Try.tm_50 Try.tm_51 Try.tm_52 Try.tm_53 Try.tm_55 Try.tm_57 Try.tm_58 Try.tm_60 Try.tm_61 Try.tm_63 Try.tm_64 Try.tm_65 Try.tm_66 Try.tm_67 Try.tm_68 Try.tm_69 Try.tm_70 Try.tm_71 Try.tm_72 Try.tm_73 Try.tm_74 Try.tm_76 Try.tm_77 Try.tm_78 Try.tm_79 Try.tm_80 Try.tm_81 Try.tm_82 Try.tm_83 Try.tm_84 Try.tm_85 Try.tm_86 Try.tm_87 Try.tm_89 Try.tm_91 Try.tm_92 Try.tm_93 Try.tm_94 Try.tm_95 Try.tm_96 Try.tm_98 Try.tm_99 Try.tm_101 Try.tm_103 Try.tm_104 Try.tm_105 Try.tm_106 Try.tm_107 Try.tm_108 Try.tm_109 Try.tm_110 Try.tm_111 Try.tm_112 Try.tm_113 Try.tm_114 Try.tm_115 Try.tm_116 Try.tm_117 Try.tm_118 Try.tm_119 Try.tm_120 Try.tm_121 Try.tm_123 Try.tm_124 Try.tm_125 Try.tm_126 Try.tm_127 Try.tm_128 Try.tm_129 Try.tm_130 Try.tm_132 Try.tm_134 Try.tm_135 Try.tm_136 Try.tm_137 Try.tm_138 Try.tm_139 Try.tm_140 Try.tm_143 Try.tm_144 Try.tm_145 Try.tm_146 Try.tm_147 Try.tm_148 Try.tm_149 Try.tm_150 Try.tm_151 dL_str nL_str TVote.d TSeen.d TStable.d TStable.n TRecord.d mk1_dL_str mk1_TVote mk1_TSeen mk1_TStable mk1_TRecord Ttowncrierref01_Reader.d Ttowncrierref01_Reader.n mk1_Ttowncrierref01_Reader Try.f92 Try.f87 Try.f88 Try.f73 Try.f74 Try.f75 Try.f54 Try.f79 Try.f80 Try.f58 Try.f57 Try.f28
end Go.Proofs
end
section
namespace Go.Proofs
open Go.Tm Go.RowKit Go.WideShapes
set_option maxRecDepth 100000
set_option maxHeartbeats 4000000
set_option linter.unusedSimpArgs false
set_option linter.unusedVariables false
attribute [local go_sem] argVars runE runK isCallV stepE aop opd opdsL opds opdO ev ofVal keep List.any natbeq Bool.false_or Bool.true_or aggEq cond_true cond_false Bool.cond_false_right Bool.cond_true_left beq_true beq_false imp_self implies_true getR getL put St.app effL del nwB blt_dec Nat.lt_irrefl Nat.lt_add_one ble_dec Nat.le_refl Nat.beq_refl roomNZ appendIn capS capK mkZ_zero mkZL_zero zeroEl D.ids D.idsL bin arith sarith binT dpick Tm.part splice fillD oneD loadD storeD srcD sliceD idxOk decide_true gval dstAt D.cells List.map_cons List.map_nil List.take List.drop List.length_map List.append Int.toNat_natCast and_true true_and decide_false List.length_cons List.length_nil List.append_nil List.nil_append Bool.and_true Bool.true_and Bool.not_false Bool.not_true ne_eq not_false_eq_true BEq.rfl List.getElem?_cons_zero List.getElem?_cons_succ List.getElem?_nil Nat.zero_add List.all_cons List.all_nil List.isEmpty_cons List.isEmpty_nil Option.getD_some Option.getD_none List.any_cons List.any_nil List.drop_succ_cons List.drop_zero unfL unf okM okML low3 List.cons_append true_or or_true Nat.zero_mul Nat.zero_le findD_int findD_str  getD_int getD_str getD_bool Option.isSome_map keyD List.length_replicate List.map_replicate setEl List.length_set bytesD_map map_ub mx_len mkZ_one mkZL_one mkM mkML mk1_int mk1_str mk1_bool drop_map take_map take_map_len List.take_length Int.toNat_zero toNat_pred fpOf metIds opIds mvV mvH mvF pickL D.ren D.renL Blk.ren List.map_append List.length_append Bool.not_not Bool.or_not_self Bool.not_or_self Bool.or_true
attribute [local go_sem] Try.tm_1 Try.tm_2 Try.tm_3 Try.tm_4 Try.tm_5 Try.tm_6 Try.tm_7 Try.tm_8 Try.tm_9 Try.tm_10 Try.tm_11 Try.tm_12 Try.tm_13 Try.tm_14 Try.tm_15 Try.tm_16 Try.tm_17 Try.tm_18 Try.tm_19 Try.tm_20 Try.tm_21 Try.tm_22 Try.tm_23 Try.tm_24 Try.tm_25 Try.tm_26 Try.tm_27 Try.tm_28 Try.tm_29 Try.tm_30 Try.tm_32 Try.tm_33 Try.tm_34 Try.tm_35 Try.tm_36 Try.tm_37 Try.tm_39 Try.tm_40 Try.tm_41 Try.tm_43 Try.tm_45 Try.tm_46 Try.tm_47 Try.tm_48 Try.tm_49 Try.tm_50 Try.tm_51 Try.tm_52 Try.tm_53 Try.tm_55 Try.tm_57 Try.tm_58 Try.tm_60 Try.tm_61 Try.tm_63 Try.tm_64 Try.tm_65 Try.tm_66 Try.tm_67 Try.tm_68 Try.tm_69 Try.tm_70 Try.tm_71 Try.tm_72 Try.tm_73 Try.tm_74 Try.tm_76 Try.tm_77 Try.tm_78 Try.tm_79 Try.tm_80 Try.tm_81 Try.tm_82 Try.tm_83 Try.tm_84 Try.tm_85 Try.tm_86 Try.tm_87 Try.tm_89 Try.tm_91 Try.tm_92 Try.tm_93 Try.tm_94 Try.tm_95 Try.tm_96 Try.tm_98 Try.tm_99 Try.tm_101 Try.tm_103 Try.tm_104 Try.tm_105 Try.tm_106 Try.tm_107 Try.tm_108 Try.tm_109 Try.tm_110 Try.tm_111 Try.tm_112 Try.tm_113 Try.tm_114 Try.tm_115 Try.tm_116 Try.tm_117 Try.tm_118 Try.tm_119 Try.tm_120 Try.tm_121 Try.tm_123 Try.tm_124 Try.tm_125 Try.tm_126 Try.tm_127 Try.tm_128 Try.tm_129 Try.tm_130 Try.tm_132 Try.tm_134 Try.tm_135 Try.tm_136 Try.tm_137 Try.tm_138 Try.tm_139 Try.tm_140 Try.tm_143 Try.tm_144 Try.tm_145 Try.tm_146 Try.tm_147 Try.tm_148 Try.tm_149 Try.tm_150 Try.tm_151 dL_str nL_str TVote.d TSeen.d TStable.d TStable.n TRecord.d mk1_dL_str mk1_TVote mk1_TSeen mk1_TStable mk1_TRecord Ttowncrierref01_Reader.d Ttowncrierref01_Reader.n mk1_Ttowncrierref01_Reader Try.f4
attribute [local go_sem] qrefs outb inb
theorem plL_seen : ∀ l : List TSeen, plL (l.map TSeen.d) = true
 | [] => rfl
 | x :: l => by simp only [List.map_cons, plL, plL_seen l]; rfl
theorem lens_big (s : TStable) (h : ∀ y ∈ s.Logs, y.length ≤ 1000) : ∀ k, (s.Logs.getD k []).length ≤ 100000 := fun k => by
 rw [List.getD_eq_getElem?_getD]
 rcases Nat.lt_or_ge k s.Logs.length with hk | hk
 ·rw [List.getElem?_eq_getElem hk]
  have := h _ (List.getElem_mem hk)
  simp only [Option.getD_some]; omega
 ·rw [List.getElem?_eq_none hk]; simp
theorem lens_out (s : TStable) (r : TRecord) (v : TStable × Int) (h : m_stable_Apply s r = some v) : ∀ k, (v.1.Logs.getD k []).length ≤ 100000 := by
 rw [m_stable_Apply] at h
 obtain ⟨v1, hv1, g⟩ := bind_some h
 clear h
 split at g
 ·cases g; intro k; simp
 ·rename_i hc
  have h0 : v1 = 0 := by simpa using hc
  subst h0
  have hlen := lens_stable_Check s hv1
  obtain ⟨v2, hv2, h⟩ := bind_some g
  clear g
  split at h
  ·cases h; intro k; simp
  ·rename_i hc2
   have h0 : v2 = 0 := by simpa using hc2
   subst h0
   have hr : RecOk r := by
    rw [rcheck_eq] at hv2
    by_cases k : RecOk r
    ·exact k
    ·rw [if_neg k] at hv2; cases hv2
   have hl : Lens s.Logs := by
    rw [check_eq] at hv1
    by_cases hs : SOk s
    ·refine ⟨hs.n.2, fun k => ?_⟩
     rw [List.getD_eq_getElem?_getD]
     rcases Nat.lt_or_ge k s.Logs.length with hk | hk
     ·rw [List.getElem?_eq_getElem hk]
      exact (hs.l _ (List.getElem_mem hk)).1
     ·rw [List.getElem?_eq_none hk]; simp
    ·rw [if_neg hs] at hv1; cases hv1
   obtain ⟨v3, hv3, g⟩ := bind_some h
   clear h
   obtain ⟨v4, hv4, h⟩ := bind_some g
   clear g
   split at h
   ·cases h; intro k; simp
   ·cases h
    have e := lens_stable_Twin _ _ hv3
    exact (lens_put2 _ _ _ hr (by rw [e]; exact hl) hv4).big
theorem callP_towncrierlaw11_StableDoes (a0 : TStable) (a1 : TStable) (a2 : TRecord) (a3 : Int) (a4 : Int) (r : Bool) (h : m_towncrierlaw11_StableDoes a0 a1 a2 a3 a4 = some r) : CallP Try.prog 4 [.agg [.imm 1 (a0.Logs.map dL_str) 4, .imm 5 (a0.Votes.map TSeen.d) 4], .agg [.imm 1 (a1.Logs.map dL_str) 4, .imm 5 (a1.Votes.map TSeen.d) 4], .agg [.int .u8 a2.Kind, .int .i64 a2.Group, .int .i64 a2.Slot, .int .i64 a2.Ballot, .str a2.Value], .int .i64 a3, .int .i64 a4] (.bool r) := by
 refine callP_intro Try.tmOk 20600 Try.func4 rfl (by decide) rfl rfl (Nat.le_of_ble_eq_true rfl) ?_
 intro hwf
 unfold m_towncrierlaw11_StableDoes at h
 refine .seq ?_
 refine .pl Try.S [0, 1, 2, 3, 4] ?_
 refine .seq ?_
 refine .seq ?_
 obtain ⟨v1, hv1, h⟩ := bind_some h
 obtain ⟨v2, hv2, h⟩ := bind_some h
 refine .rg Try.S [3, 4, 5, 6, 7] ?_
 refine .rn 1 ?_
 refine .call (r := .bool v1) rfl rfl rfl rfl rfl rfl (callP_towncrierref11_Great a0 v1 hv1) ?_
 refine .rn 2 ?_
 refine .gcall (r := .bool v2) rfl rfl rfl rfl rfl (fun hg => ⟨[], [.agg [.imm 1 (a1.Logs.map dL_str) 4, .imm 5 (a1.Votes.map TSeen.d) 4]], _, rfl, gd hg, rfl, (callP_towncrierref11_Great a1 v2 (ite_lc hv2 hg))⟩) ?_
 refine .rn 7 ?_
 refine .nil ⟨nofun, ?_⟩
 refine .cond rfl rfl (fun hc1 => ?_) (fun hc1 => ?_)
 ·skip
  replace h := ite_lc h hc1
  refine .seq ?_
  refine .pl Try.S [] ?_
  have hq := Option.some.inj h
  subst r
  exact .ret ⟨.inr rfl, rsi⟩
 ·skip
  replace h := ite_rc h hc1
  refine .skip ?_
  refine .seq ?_
  obtain ⟨v3, hv3, h⟩ := bind_some h
  refine .rg Try.S [3, 4, 5, 6, 7] ?_
  refine .rn 1 ?_
  have hgt : m_towncrierref11_Great a0 = some false := by
   cases hvb : v1 with
   | false => rw [hvb] at hv1; exact hv1
   | true => exfalso; simp [hvb] at hc1
  have h10 := (great_logs a0 hgt).1
  have hL3 := lens_ref11_Twin a0 v3 hv3
  have h3g : ∀ y ∈ v3.Logs, y.length ≤ 1000 := by rw [hL3]; exact (great_logs a0 hgt).2.2
  refine .call (r := .agg [.imm 1 (v3.Logs.map dL_str) 12, .imm 5 (v3.Votes.map TSeen.d) 12]) rfl rfl rfl rfl rfl rfl (callP_towncrierref11_Twin a0 v3 h10 hv3) ?_
  refine .rn 2 ?_
  refine .nil ⟨nofun, ?_⟩
  refine .seq ?_
  obtain ⟨v4, hv4, h⟩ := bind_some h
  refine .rg Try.S [3, 4, 5, 6, 7, 11] ?_
  refine .rn 2 ?_
  have hx4 := lens_stable_Apply v3 a2 v4 hv4
  refine .hcall (H := []) (r := .tuple [.agg [.ref 20001 1 0 v4.1.Logs.length (some unkC), .ref 20101 5 0 v4.1.Votes.length (some unkC)], .int .i64 v4.2]) rfl rfl rfl rfl rfl (callH_wkG (.cons (.aggs (.cons (.new4 _ _ rfl) (.cons (.new4 _ _ rfl) (.refl _)))) (.refl _)) (callH_ApplyD v3 a2 v4 hv4)) (fun id b h => by cases h) (by simp) (.inr ⟨Nat.le_of_ble_eq_true rfl, Nat.le_of_ble_eq_true rfl⟩) ?_
  refine .rn 6 ?_
  refine .nil ⟨nofun, ?_⟩
  refine .seq ?_
  obtain ⟨v5, hv5, h⟩ := bind_some h
  refine .rg Try.S [3, 4, 5, 6, 7, 11, 12, 13] ?_
  refine .rn 2 ?_
  refine .call (r := .tuple [.agg [.imm 1 (v5.1.Logs.map dL_str) 12, .imm 5 (v5.1.Votes.map TSeen.d) 12], .int .i64 v5.2]) rfl rfl rfl rfl rfl rfl (callP_towncrierref11_Apply a0 a2 v5 hv5) ?_
  refine .rn 6 ?_
  refine .nil ⟨nofun, ?_⟩
  refine .seq ?_
  obtain ⟨v6, hv6, h⟩ := bind_some h
  refine .rg Try.S [3, 4, 5, 6, 11, 12, 13, 14, 15] ?_
  refine .rn 3 ?_
  refine .call (r := .tuple [.agg [.int .i64 v6.1.Promised, .int .i64 v6.1.Ballot, .str v6.1.Value], .int .i64 v6.2]) rfl rfl rfl rfl rfl rfl (callP_stable_At v3 a3 a4 v6 hv6) ?_
  refine .rn 6 ?_
  refine .nil ⟨nofun, ?_⟩
  refine .seq ?_
  obtain ⟨v7, hv7, h⟩ := bind_some h
  refine .rg Try.S [3, 4, 5, 6, 11, 12, 13, 14, 15, 16, 17] ?_
  refine .rn 3 ?_
  refine .call (r := .tuple [.agg [.int .i64 v7.1.Promised, .int .i64 v7.1.Ballot, .str v7.1.Value], .int .i64 v7.2]) rfl rfl rfl rfl rfl rfl (callP_towncrierref11_At a0 a3 a4 v7 hv7) ?_
  refine .rn 6 ?_
  refine .nil ⟨nofun, ?_⟩
  refine .seq ?_
  obtain ⟨v8, hv8, h⟩ := bind_some h
  refine .rg Try.S [5, 6, 11, 12, 13, 14, 15, 16, 17, 18, 19] ?_
  refine .rn 1 ?_
  have hL8 := lens_stable_Twin v3 v8 hv8
  have h810 : v8.Logs.length ≤ 10 := by rw [hL8, hL3]; exact h10
  refine .hcall (H := []) (r := .agg [.ref 20301 1 0 v8.Logs.length (some unkC), .ref 20302 5 0 v8.Votes.length (some unkC)]) rfl rfl rfl rfl rfl (callH_wkG (.cons (.aggs (.cons (.new4 _ _ rfl) (.cons (.new4 _ _ rfl) (.refl _)))) (.refl _)) (callH_stable_TwinU v3 v8 (by rw [hL3]; exact h10) hv8)) (fun id b h => by cases h) (by simp) (.inr ⟨Nat.le_of_ble_eq_true rfl, Nat.le_of_ble_eq_true rfl⟩) ?_
  refine .rn 2 ?_
  refine .nil ⟨nofun, ?_⟩
  refine .seq ?_
  refine .seq ?_
  obtain ⟨v9, hv9, h⟩ := bind_some h
  obtain ⟨v10, hv10, h⟩ := bind_some h
  obtain ⟨v11, hv11, h⟩ := bind_some h
  obtain ⟨v12, hv12, h⟩ := bind_some h
  obtain ⟨v13, hv13, h⟩ := bind_some h
  obtain ⟨v14, hv14, h⟩ := bind_some h
  refine .rg Try.S [5, 6, 11, 12, 13, 14, 15, 16, 17, 18, 19, 20] ?_
  refine .rd 2 ?_
  refine .hcall (H := [(20001, outb 20110 v4.1.Logs), (20110, inb v4.1.Logs 0), (20111, inb v4.1.Logs 1), (20112, inb v4.1.Logs 2), (20113, inb v4.1.Logs 3), (20101, .arr 67 5 true (v4.1.Votes.map TSeen.d))]) (eff := []) (nw := (0, 0)) (r := .bool v9) rfl rfl rfl rfl rfl (callH_lendR (args' := [.agg [.imm 1 (v4.1.Logs.map dL_str) 4, .imm 5 (v4.1.Votes.map TSeen.d) 4], .agg [.imm 1 (v5.1.Logs.map dL_str) 4, .imm 5 (v5.1.Votes.map TSeen.d) 4]]) (.cons (.agg (.cons (LendR.nest plL_str rfl rfl (fun i hi => by rcases (by omega : i = 0 ∨ i = 1 ∨ i = 2 ∨ i = 3) with rfl | rfl | rfl | rfl <;> rfl)) (.cons (LendR.list rfl (by simp) (plL_seen _)) .nil))) (.cons (.of fun _ => rfl) .nil)) (callP_towncrierref11_Same v4.1 v5.1 v9 hv9)) (fun id b h => getL_pick [20001, 20110, 20111, 20112, 20113, 20101] _ id b h) (by simp) (.inl rfl) ?_
  refine .rd 6 ?_
  refine .rd 6 ?_
  refine .rd 7 ?_
  refine .ghcall (r := .bool v10) [(20301, outb 20310 v8.Logs), (20310, inb v8.Logs 0), (20311, inb v8.Logs 1), (20312, inb v8.Logs 2), (20313, inb v8.Logs 3), (20314, inb v8.Logs 4), (20315, inb v8.Logs 5), (20316, inb v8.Logs 6), (20317, inb v8.Logs 7), (20318, inb v8.Logs 8), (20319, inb v8.Logs 9), (20302, .arr 67 5 true (v8.Votes.map TSeen.d))] rfl rfl rfl rfl rfl (fun id b h => getL_pick [20301, 20310, 20311, 20312, 20313, 20314, 20315, 20316, 20317, 20318, 20319, 20302] _ id b h) (fun hg => ⟨[], [.agg [.ref 20301 1 0 v8.Logs.length (some unkC), .ref 20302 5 0 v8.Votes.length (some unkC)], .agg [.imm 1 (a0.Logs.map dL_str) 4, .imm 5 (a0.Votes.map TSeen.d) 4]], rfl, gd hg, (callH_lendR (args' := [.agg [.imm 1 (v8.Logs.map dL_str) 4, .imm 5 (v8.Votes.map TSeen.d) 4], .agg [.imm 1 (a0.Logs.map dL_str) 4, .imm 5 (a0.Votes.map TSeen.d) 4]]) (.cons (.agg (.cons (LendR.nest plL_str rfl rfl (fun i hi => by rcases (by omega : i = 0 ∨ i = 1 ∨ i = 2 ∨ i = 3 ∨ i = 4 ∨ i = 5 ∨ i = 6 ∨ i = 7 ∨ i = 8 ∨ i = 9) with rfl | rfl | rfl | rfl | rfl | rfl | rfl | rfl | rfl | rfl <;> rfl)) (.cons (LendR.list rfl (by simp) (plL_seen _)) .nil))) (.cons (.of fun _ => rfl) .nil)) (callP_towncrierref11_Same v8 a0 v10 (ite_lc hv10 hg)))⟩) ?_
  refine .rd 4 ?_
  refine .gcall (r := .int .i64 v11) rfl rfl rfl rfl rfl (fun hg => ⟨[], [.agg [.imm 1 (v3.Logs.map dL_str) 12, .imm 5 (v3.Votes.map TSeen.d) 12]], _, rfl, gd hg, rfl, (callP_stable_Check v3 v11 (ite_lc hv11 hg))⟩) ?_
  refine .rd 2 ?_
  refine .gcall (r := .bool v12) rfl rfl rfl rfl rfl (fun hg => ⟨[], [.agg [.imm 1 (a0.Logs.map dL_str) 4, .imm 5 (a0.Votes.map TSeen.d) 4]], _, rfl, gd hg, rfl, (callP_towncrierref11_May a0 v12 (ite_lc hv12 hg))⟩) ?_
  refine .rd 5 ?_
  refine .gcall (r := .bool v13) rfl rfl rfl rfl rfl (fun hg => ⟨[], [.agg [.imm 1 (v3.Logs.map dL_str) 12, .imm 5 (v3.Votes.map TSeen.d) 12], .agg [.imm 1 (a1.Logs.map dL_str) 4, .imm 5 (a1.Votes.map TSeen.d) 4]], _, rfl, gd hg, rfl, (callP_stable_Same v3 a1 v13 (ite_lc hv13 hg))⟩) ?_
  refine .rd 2 ?_
  refine .gcall (r := .bool v14) rfl rfl rfl rfl rfl (fun hg => ⟨[], [.agg [.imm 1 (a0.Logs.map dL_str) 4, .imm 5 (a0.Votes.map TSeen.d) 4], .agg [.imm 1 (a1.Logs.map dL_str) 4, .imm 5 (a1.Votes.map TSeen.d) 4]], _, rfl, gd hg, rfl, (callP_towncrierref11_Same a0 a1 v14 (ite_lc hv14 hg))⟩) ?_
  refine .rd 2 ?_
  refine .nil ⟨fun _ => schedB_of (by kernel_rfl), ?_⟩
  refine .cond rfl rfl (fun hc2 => ?_) (fun hc2 => ?_)
  ·skip
   replace h := ite_lc h hc2
   refine .seq ?_
   refine .pl Try.S [] ?_
   have hq := Option.some.inj h
   subst r
   exact .ret ⟨.inr rfl, rsi⟩
  ·skip
   replace h := ite_rc h hc2
   refine .skip ?_
   refine .seq ?_
   refine .rg Try.S [5, 11, 12, 20] ?_
   refine .rn 1 ?_
   refine .hcall (H := [(20001, outb 20110 v4.1.Logs), (20110, inb v4.1.Logs 0), (20111, inb v4.1.Logs 1), (20112, inb v4.1.Logs 2), (20113, inb v4.1.Logs 3), (20101, .arr 67 5 true (v4.1.Votes.map TSeen.d))]) (eff := [(20001, none), (20110, none), (20111, none), (20112, none), (20113, none), (20101, none)]) (nw := (20400, 20440)) (r := .tuple []) rfl rfl rfl rfl rfl (callH_turnX v4.1 hx4 (lens_out v3 a2 v4 hv4)) (fun id b h => getL_pick [20001, 20110, 20111, 20112, 20113, 20101] _ id b h) (by simp) (.inr ⟨Nat.le_of_ble_eq_true rfl, Nat.le_of_ble_eq_true rfl⟩) ?_
   refine .nil ⟨nofun, ?_⟩
   refine .seq ?_
   refine .rg Try.S [5, 11, 20] ?_
   refine .rn 1 ?_
   refine .hcall (H := [(20301, outb 20310 v8.Logs), (20310, inb v8.Logs 0), (20311, inb v8.Logs 1), (20312, inb v8.Logs 2), (20313, inb v8.Logs 3), (20314, inb v8.Logs 4), (20315, inb v8.Logs 5), (20316, inb v8.Logs 6), (20317, inb v8.Logs 7), (20318, inb v8.Logs 8), (20319, inb v8.Logs 9), (20302, .arr 67 5 true (v8.Votes.map TSeen.d))]) (eff := [(20301, none), (20310, none), (20311, none), (20312, none), (20313, none), (20314, none), (20315, none), (20316, none), (20317, none), (20318, none), (20319, none), (20302, none)]) (nw := (20500, 20540)) (r := .tuple []) rfl rfl rfl rfl rfl (callH_turnT v8 h810 (lens_big v8 (by rw [hL8]; exact h3g))) (fun id b h => getL_pick [20301, 20310, 20311, 20312, 20313, 20314, 20315, 20316, 20317, 20318, 20319, 20302] _ id b h) (by simp) (.inr ⟨Nat.le_of_ble_eq_true rfl, Nat.le_of_ble_eq_true rfl⟩) ?_
   refine .nil ⟨nofun, ?_⟩
   refine .seq ?_
   obtain ⟨v15, hv15, h⟩ := bind_some h
   refine .rg Try.S [5, 11] ?_
   refine .rn 2 ?_
   refine .call (r := .bool v15) rfl rfl rfl rfl rfl rfl (callP_towncrierref11_Same v3 a0 v15 hv15) ?_
   refine .rn 1 ?_
   refine .nil ⟨nofun, ?_⟩
   have hq := Option.some.inj h
   subst r
   exact .ret ⟨.inr rfl, rsi⟩
end Go.Proofs
end

/- Texts of the proof. -/
import Derived.WideKeyArgs
import Derived.ChangeSame
import Derived.ChangeArms
import Derived.OpenShut
import Derived.Carry
import Derived.Test.YtkfipajabmhkbaaRows
import Derived.WalkKit
import Derived.ProofKit
import Derived.Test.YtkfipajabmhkbaaStableOnPj
import Derived.Test.YtkfipajabmhkbaaStableOnPk
import Derived.Test.YtkfipajabmhkbaaStableOnPg
import Derived.Test.YtkfipajabmhkbaaStableOnPh
import Derived.Test.YtkfipajabmhkbaaStableOnPf
section
namespace Go.Proofs
open Go.Tm
set_option linter.unusedSimpArgs false
theorem get_loop : ∀ (l : List Int) (n2 : Nat) (n1 : Int), (∃ (n : Int) (k : Nat), m_num_Get_loop1 l n2 n1 = some (.inl (n, (k : Int), 0)) ∧ n2 < k ∧ k ≤ n2 + l.length ∧ 0 ≤ n ∧ n ≤ 1099511627776) ∨ m_num_Get_loop1 l n2 n1 = some (.inr ())
 | [], n2, n1 => .inr (by rw [m_num_Get_loop1])
 | y :: l, n2, n1 => by
  rw [m_num_Get_loop1]
  by_cases h5 : (n2 : Int) > 5
  ·rw [if_pos h5]; exact .inr rfl
  rw [if_neg h5, if_pos (by rw [wr_i (by omega) (by omega)]; omega)]
  split
  ·rcases get_loop l (n2 + 1) (bitw .or .i64 n1 (shw true .i64 (wr .i64 (bitw .and .u8 y 127)) (wr .i64 (7 * (n2 : Int))))) with ⟨n, k, h1, h2, h3, h4⟩ | h
   ·exact .inl ⟨n, k, h1, by omega, by simp only [List.length_cons]; omega, h4⟩
   ·exact .inr h
  ·have ek : wr .i64 ((n2 : Int) + 1) = ((n2 + 1 : Nat) : Int) := by rw [wr_i (by omega) (by omega)]; omega
   generalize bitw .or .i64 n1 (shw true .i64 (wr .i64 (bitw .and .u8 y 127)) (wr .i64 (7 * (n2 : Int)))) = N
   rw [ek]
   by_cases hz : y = 0 ∧ (n2 : Int) > 0
   ·rw [if_neg (fun h => h hz)]
    simp only [Option.bind_some]
    rw [if_pos (.inl hz)]
    exact .inr rfl
   ·rw [if_pos hz, m_num_in]
    simp only [Option.bind_some]
    by_cases hN : 0 ≤ N ∧ N ≤ 1099511627776
    ·rw [if_neg (by simp [hN.1, hN.2]; omega)]
     exact .inl ⟨N, n2 + 1, rfl, by omega, by simp only [List.length_cons]; omega, hN⟩
    ·rw [if_pos (.inr (by simp; omega))]
     exact .inr rfl
theorem get_tot (l : List Int) : ∃ (n : Int) (k : Nat) (e : Int), m_num_Get l = some (n, (k : Int), e) ∧ k ≤ l.length ∧ 0 ≤ n ∧ n ≤ 1099511627776 := by
 rw [m_num_Get]
 rcases get_loop l 0 0 with ⟨n, k, h1, _, h3, h4, h5⟩ | h
 ·rw [h1]; exact ⟨n, k, 0, rfl, by omega, h4, h5⟩
 ·rw [h]; exact ⟨0, 0, 8, rfl, Nat.zero_le _, by omega, by omega⟩
theorem next_tot (l : List Int) (b : Bool) : ∃ (n : Int) (k : Nat) (b' : Bool), m_record_Read_1 l b = some (n, l.drop k, b') ∧ k ≤ l.length := by
 obtain ⟨n, k, e, h1, h2, _⟩ := get_tot l
 rw [m_record_Read_1, h1]
 simp only [Option.bind_some]
 rw [if_pos ⟨by omega, by omega⟩, Int.toNat_natCast]
 exact ⟨n, k, _, rfl, h2⟩
theorem text_tot (l : List Int) (hl : (l.length : Int) ≤ 9223372036854775807) : ∃ (t : List UInt8) (k : Nat) (e : Int), m_num_GetText l = some (t, (k : Int), e) ∧ k ≤ l.length := by
 obtain ⟨n, k, e, h1, h2, h3, h4⟩ := get_tot l
 rw [m_num_GetText, h1]
 simp only [Option.bind_some]
 rw [wr_i (by omega) (by omega)]
 split
 ·exact ⟨[], 0, 8, rfl, Nat.zero_le _⟩
 ·rename_i hc
  rw [wr_i (by omega) (by omega), if_pos ⟨by omega, by omega, by omega⟩]
  exact ⟨_, k + n.toNat, 0, by
   have : ((k + n.toNat : Nat) : Int) = (k : Int) + n := by omega
   rw [this], by omega⟩
theorem has_eq (k : Int) : m_record_has k = some (((k == 1) || (k == 2)), ((k == 2) || (k == 3))) := rfl
theorem read_tot (t : List UInt8) (ht : (t.length : Int) ≤ 9223372036854775807) : ∃ r, m_record_Read t = some r := by
 have hlen : ((ofBytes t).length : Int) ≤ 9223372036854775807 := by
  have : (ofBytes t).length = t.length := by simp [ofBytes]
  omega
 rw [m_record_Read]
 obtain ⟨n1, k1, b1, e1, g1⟩ := next_tot (ofBytes t) false
 rw [e1]; simp only [Option.bind_some]
 obtain ⟨n2, k2, b2, e2, g2⟩ := next_tot ((ofBytes t).drop k1) b1
 rw [e2]; simp only [Option.bind_some]
 obtain ⟨n3, k3, b3, e3, g3⟩ := next_tot (((ofBytes t).drop k1).drop k2) b2
 rw [e3]; simp only [Option.bind_some]
 rw [has_eq]; simp only [Option.bind_some]
 obtain ⟨n4, k4, b4, e4, g4⟩ := next_tot ((((ofBytes t).drop k1).drop k2).drop k3) b3
 rw [e4]; simp only [Option.bind_some]
 have key : ∀ (l1 : List Int) (bb : Bool) (m : Int), (l1.length : Int) ≤ 9223372036854775807 → ∀ g : Bool × Bool, ∃ r, (Option.bind (α := (List Int) × Bool × (List UInt8)) (if (g.2 = true) ∧ (¬ (bb = true)) then
   Option.bind (m_num_GetText l1) fun v6 =>
   if (0 ≤ v6.2.1 ∧ v6.2.1 ≤ (l1.length : Int)) then
   some ((l1.drop v6.2.1.toNat), (v6.2.2 != 0), v6.1)
   else none
   else
   some (l1, bb, [])) fun (l2, b2, s1) =>
   Option.bind (if ¬ (((b2 = true) ∨ ((l2.length : Int) > 0)) ∨ (n1 > 255)) then m_record_Check (⟨(wr .u8 (bitw .and .i64 n1 255)), n2, n3, m, s1⟩ : TRecord) else some default) fun v7 =>
   if (((b2 = true) ∨ ((l2.length : Int) > 0)) ∨ (n1 > 255)) ∨ (¬ (v7 = 0)) then
   some ((⟨0, 0, 0, 0, []⟩ : TRecord), (8 : Int))
   else
   some ((⟨(wr .u8 (bitw .and .i64 n1 255)), n2, n3, m, s1⟩ : TRecord), 0)) = some r := by
  intro l1 bb m hl g
  have fin : ∀ (l2 : List Int) (b2 : Bool) (s1 : List UInt8), ∃ r, (Option.bind (if ¬ (((b2 = true) ∨ ((l2.length : Int) > 0)) ∨ (n1 > 255)) then m_record_Check (⟨(wr .u8 (bitw .and .i64 n1 255)), n2, n3, m, s1⟩ : TRecord) else some default) fun v7 =>
    if (((b2 = true) ∨ ((l2.length : Int) > 0)) ∨ (n1 > 255)) ∨ (¬ (v7 = 0)) then
    some ((⟨0, 0, 0, 0, []⟩ : TRecord), (8 : Int))
    else
    some ((⟨(wr .u8 (bitw .and .i64 n1 255)), n2, n3, m, s1⟩ : TRecord), 0)) = some r := by
   intro l2 b2 s1
   obtain ⟨z, hz⟩ : ∃ z, m_record_Check (⟨(wr .u8 (bitw .and .i64 n1 255)), n2, n3, m, s1⟩ : TRecord) = some z := ⟨_, rcheck_eq _⟩
   rw [hz]
   split
   ·simp only [Option.bind_some]
    split
    ·exact ⟨_, rfl⟩
    ·exact ⟨_, rfl⟩
   ·simp only [Option.bind_some]
    split
    ·exact ⟨_, rfl⟩
    ·exact ⟨_, rfl⟩
  split
  ·obtain ⟨t', k', e', h1, h2⟩ := text_tot l1 hl
   rw [h1]
   simp only [Option.bind_some]
   rw [if_pos ⟨by omega, by omega⟩]
   simp only [Option.bind_some]
   exact fin _ _ _
  ·simp only [Option.bind_some]
   exact fin _ _ _
 have d3 : (((((ofBytes t).drop k1).drop k2).drop k3).length : Int) ≤ 9223372036854775807 := by
  simp only [List.length_drop]; omega
 by_cases hv : ((wr .u8 (bitw .and .i64 n1 255) == 1) || (wr .u8 (bitw .and .i64 n1 255) == 2)) = true
 ·rw [if_pos hv]
  simp only [Option.bind_some]
  exact key _ b4 n4 (by simp only [List.length_drop] at d3 ⊢; omega) (true, _)
 ·rw [if_neg hv]
  simp only [Option.bind_some]
  exact key _ b3 0 d3 (true, _)
def rd (t : List UInt8) : TRecord × Int := (m_record_Read t).getD (⟨0, 0, 0, 0, []⟩, 8)
theorem rd_eq (t : List UInt8) (ht : (t.length : Int) ≤ 9223372036854775807) : m_record_Read t = some (rd t) := by
 obtain ⟨r, hr⟩ := read_tot t ht
 unfold rd
 rw [hr]; rfl
theorem rd_ok (t : List UInt8) (ht : (t.length : Int) ≤ 9223372036854775807) (h : (rd t).2 = 0) : RecOk (rd t).1 := read_ok t _ (rd_eq t ht) h
theorem read_bad (t : List UInt8) (r : TRecord × Int) (h : m_record_Read t = some r) (h0 : r.2 ≠ 0) : r = (⟨0, 0, 0, 0, []⟩, 8) := by
 rw [m_record_Read] at h
 obtain ⟨v1, _, h⟩ := bind_some h
 obtain ⟨v2, _, h⟩ := bind_some h
 obtain ⟨v3, _, h⟩ := bind_some h
 obtain ⟨v4, _, h⟩ := bind_some h
 obtain ⟨⟨l1, b1, n1⟩, _, h⟩ := bind_some h
 simp only at h
 obtain ⟨⟨l2, b2, s1⟩, _, h⟩ := bind_some h
 simp only at h
 obtain ⟨v7, h7, h⟩ := bind_some h
 split at h
 ·cases h; rfl
 ·cases h; exact absurd rfl h0
theorem rd_bad (t : List UInt8) (ht : (t.length : Int) ≤ 9223372036854775807) (h : (rd t).2 ≠ 0) : (rd t).1 = ⟨0, 0, 0, 0, []⟩ := by
 rw [read_bad t _ (rd_eq t ht) h]
end Go.Proofs
end
section
namespace Go.Proofs
open Go.Tm
set_option linter.unusedVariables false
end Go.Proofs
end
section
namespace Go.Proofs
open Go.Tm
set_option linter.unusedSimpArgs false
theorem BOk.pos {b : Int} (h : BOk b) (h1 : -9223372036854775808 ≤ b) (h2 : b ≤ 9223372036854775807) : 8 ≤ b := by
 have h3 := h.1
 by_cases h0 : 0 ≤ b
 ·rw [Int.tdiv_eq_ediv_of_nonneg h0, wr_i (by omega) (by omega)] at h3
  omega
 ·have e : b.tdiv 8 = -((-b) / 8) := by
   rw [← Int.tdiv_eq_ediv_of_nonneg (by omega : 0 ≤ -b), Int.neg_tdiv, Int.neg_neg]
  rw [e, wr_i (by omega) (by omega)] at h3
  omega
theorem Up.app {A B : List TSeen} (h : Up A) (k : Up B) (hab : ∀ a ∈ A, ∀ b ∈ B, ltP a b) : Up (A ++ B) := List.pairwise_append.2 ⟨h, k, hab⟩
theorem Up.bef {l : List TSeen} (h : Up l) (x : TSeen) : Up (bef x l) := List.Pairwise.filter _ h
theorem Up.aft {l : List TSeen} (h : Up l) (x : TSeen) : Up (aft x l) := List.Pairwise.filter _ h
theorem mem_with {l : List TSeen} {x y : TSeen} (h : y ∈ withV l x) : (y = x ∧ x.Vote ≠ zV) ∨ (y ∈ l ∧ ¬ sameP y x) := by
 unfold withV at h
 rw [List.mem_append, List.mem_append] at h
 rcases h with h | h | h
 ·have := bef_lt h; exact .inr ⟨this.1, ltP_ns this.2⟩
 ·split at h
  ·cases h
  ·rename_i hz
   rw [List.mem_singleton] at h
   exact .inl ⟨h, hz⟩
 ·have := aft_lt h; exact .inr ⟨this.1, ltP_ns' this.2⟩
theorem Up.with {l : List TSeen} (h : Up l) (x : TSeen) : Up (withV l x) := by
 unfold withV
 refine (h.bef x).app (Up.app ?_ (h.aft x) ?_) ?_
 ·split
  ·exact List.Pairwise.nil
  ·exact List.pairwise_singleton _ _
 ·intro a ha b hb
  split at ha
  ·cases ha
  ·rw [List.mem_singleton] at ha; subst ha; exact (aft_lt hb).2
 ·intro a ha b hb
  rcases List.mem_append.1 hb with hb | hb
  ·split at hb
   ·cases hb
   ·rw [List.mem_singleton] at hb; subst hb; exact (bef_lt ha).2
  ·exact ltP_trans (bef_lt ha).2 (aft_lt hb).2
theorem VOk.at {s : TStable} (h : SOk s) (g k : Int) : VOk (voteAt s.Votes g k) := by
 unfold voteAt
 cases hf : s.Votes.find? fun y => decide (y.Group = g ∧ y.Slot = k) with
 | none => exact ⟨.inl rfl, by rfl⟩
 | some y => exact (h.v y (List.mem_of_find?_eq_some hf)).2.2.2.2
theorem newV_ok {s : TStable} (_ : SOk s) {r : TRecord} (hr : RecOk r) (h : (newV s r).2 = 0) (hz : (newV s r).1 ≠ zV) : (newV s r).1.Promised ≠ 0 ∧ VOk (newV s r).1 := by
 unfold newV at h hz ⊢
 obtain ⟨_, _, _, h3⟩ := hr
 rcases h3 with ⟨k, b, _⟩ | ⟨k, b⟩ | ⟨k, _⟩
 ·rw [if_pos k] at h ⊢
  simp only at h ⊢
  rw [if_pos h]
  exact ⟨b.ne, VOk.prep (askE_0.1 h)⟩
 ·rw [if_neg (by omega), if_pos k] at h ⊢
  simp only at h ⊢
  rw [if_pos h]
  exact ⟨b.ne, VOk.acc (askE_0.1 h)⟩
 ·rw [if_neg (by omega), if_neg (by omega)] at hz
  exact absurd rfl hz
theorem putE_0 {s : TStable} {r : TRecord} (h : putE s r = 0) : r.Group < (s.Logs.length : Int) ∧ ((logAt s r.Group).length : Int) < r.Slot ∧ (r.Kind = 3 → r.Slot = ((logAt s r.Group).length : Int) + 1) ∧ (newV s r).2 = 0 := by
 unfold putE at h
 split at h
 ·cases h
 ·split at h
  ·cases h
  ·exact ⟨by omega, by omega, fun k => by omega, h⟩
theorem logs_put (s : TStable) (r : TRecord) : (putS s r).Logs.length = s.Logs.length := by
 unfold putS
 simp only
 split
 ·rw [List.length_set]
 ·rfl
theorem getD_set (L : List Txts) (k j : Nat) (x : Txts) (h : k < L.length) : (L.set k x).getD j default = if k = j then x else L.getD j default := by
 rw [List.getD_eq_getElem?_getD, List.getElem?_set]
 split
 ·rename_i e; subst e; simp [h]
 ·rw [List.getD_eq_getElem?_getD]
theorem SOk.put {s : TStable} {r : TRecord} (hs : SOk s) (hr : RecOk r) (h0 : putE s r = 0) : SOk (putS s r) := by
 obtain ⟨h1, h2, h3, h4⟩ := putE_0 h0
 have hl := logs_put s r
 have hg := hr.1
 have hlog := hs.log hg.1 h1
 have hlk : ∀ g : Int, 0 ≤ g → g < (s.Logs.length : Int) → (((putS s r).Logs.getD g.toNat default).length : Int) = ((s.Logs.getD g.toNat default).length : Int) + (if r.Kind = 3 ∧ g = r.Group then 1 else 0) := by
  intro g a b
  unfold putS
  simp only
  by_cases k : r.Kind = 3
  ·rw [if_pos k, getD_set _ _ _ _ (by omega)]
   by_cases e : g = r.Group
   ·rw [if_pos (by rw [e]), if_pos ⟨k, e⟩, e, List.length_append]
    unfold logAt
    simp
   ·rw [if_neg (by omega), if_neg (fun h => e h.2)]; omega
  ·rw [if_neg k, if_neg (fun h => k h.1)]; omega
 refine ⟨by rw [hl]; exact hs.n, ?_, ?_, hs.p.with _⟩
 ·intro l hlm
  unfold putS at hlm
  simp only at hlm
  split at hlm
  ·rename_i k
   rcases List.mem_or_eq_of_mem_set hlm with h | h
   ·exact hs.l l h
   ·subst h
    refine ⟨?_, fun v hv => ?_⟩
    ·have := h3 k
     have := hr.2.1.2
     rw [List.length_append, List.length_singleton]
     omega
    ·rcases List.mem_append.1 hv with h | h
     ·exact hlog.2 v h
     ·rw [List.mem_singleton] at h; subst h; exact hr.2.2.1
  ·exact hs.l l hlm
 ·intro v hv
  rcases mem_with (show v ∈ withV s.Votes _ from hv) with ⟨rfl, hz⟩ | ⟨hm, hns⟩
  ·have hk : r.Kind ≠ 3 := by
    intro k
    refine hz ?_
    show (newV s r).1 = zV
    unfold newV
    rw [if_neg (by omega), if_neg (by omega)]
   obtain ⟨n1, n2⟩ := newV_ok hs hr h4 hz
   refine ⟨⟨hg.1, by rw [hl]; exact h1⟩, ?_, hr.2.1.2, n1, n2⟩
   rw [hlk _ hg.1 h1, if_neg (fun h => hk h.1)]
   have : ((s.Logs.getD r.Group.toNat default).length : Int) < r.Slot := h2
   simp only
   omega
  ·obtain ⟨v1, v2, v3, v4, v5⟩ := hs.v v hm
   refine ⟨⟨v1.1, by rw [hl]; exact v1.2⟩, ?_, v3, v4, v5⟩
   rw [hlk _ v1.1 v1.2]
   split
   ·rename_i k
    have e3 := h3 k.1
    have e4 : ((s.Logs.getD v.Group.toNat default).length : Int) = ((logAt s r.Group).length : Int) := by rw [k.2]; rfl
    have : ¬ (v.Group = r.Group ∧ v.Slot = r.Slot) := hns
    omega
   ·omega
def eStb : TStable := ⟨[], []⟩
theorem apply_eq (s : TStable) (r : TRecord) (hl : s.Votes.length < 900000) : m_stable_Apply s r = some (if SOk s then if RecOk r then if putE s r = 0 then (putS s r, 0) else (eStb, putE s r) else (eStb, 8) else (eStb, 8)) := by
 rw [m_stable_Apply, check_eq]
 simp only [Option.bind_some]
 by_cases hs : SOk s
 ·rw [if_pos hs, if_pos hs, if_neg (by simp), rcheck_eq]
  simp only [Option.bind_some]
  by_cases hr : RecOk r
  ·rw [if_pos hr, if_pos hr, if_neg (by simp), twin_eq s hs hl]
   simp only [Option.bind_some]
   rw [put_eq s r hs hr hl]
   simp only [Option.bind_some]
   by_cases h0 : putE s r = 0
   ·rw [if_pos h0, if_pos h0, if_neg (by simpa using h0)]
   ·rw [if_neg h0, if_neg h0, if_pos (by simpa using h0)]; rfl
  ·rw [if_neg hr, if_neg hr, if_pos (by decide)]; rfl
 ·rw [if_neg hs, if_neg hs, if_pos (by decide)]; rfl
end Go.Proofs
end
section
namespace Go.Proofs
open Go.Tm
set_option linter.unusedSimpArgs false
theorem len_with' {l : List TSeen} (hu : Up l) (x : TSeen) : (withV l x).length ≤ l.length + 1 := by
 have h : (bef x l).length + (aft x l).length ≤ l.length := by
  rcases split_at x l hu with e | ⟨y, _, e⟩
  ·have := congrArg List.length e
   rw [List.length_append] at this
   omega
  ·have := congrArg List.length e
   simp only [List.length_append, List.length_cons] at this
   omega
 unfold withV
 simp only [List.length_append]
 split <;> simp <;> omega
noncomputable def stS (s : TStable) (t : List UInt8) : TStable × Int :=
 if (rd t).2 = 0 then if putE s (rd t).1 = 0 then (putS s (rd t).1, 0) else (eStb, putE s (rd t).1) else (eStb, (rd t).2)
noncomputable def foldS : TStable → Txts → TStable × Int
 | s, [] => (s, 0)
 | s, t :: l => if (stS s t).2 = 0 then foldS (stS s t).1 l else (eStb, (stS s t).2)
abbrev Short (l : Txts) : Prop := ∀ t ∈ l, (t.length : Int) ≤ 9223372036854775807
theorem stS_ok {s : TStable} {t : List UInt8} (hs : SOk s) (ht : (t.length : Int) ≤ 9223372036854775807) (h : (stS s t).2 = 0) : SOk (stS s t).1 ∧ (stS s t).1.Votes.length ≤ s.Votes.length + 1 := by
 unfold stS at h ⊢
 by_cases h1 : (rd t).2 = 0
 ·rw [if_pos h1] at h ⊢
  by_cases h2 : putE s (rd t).1 = 0
  ·rw [if_pos h2]
   exact ⟨hs.put (rd_ok t ht h1) h2, len_with' hs.p _⟩
  ·rw [if_neg h2] at h
   exact absurd h h2
 ·rw [if_neg h1] at h
  exact absurd h h1
theorem stS_bad {s : TStable} {t : List UInt8} (h : (stS s t).2 ≠ 0) : (stS s t).1 = eStb := by
 unfold stS at h ⊢
 by_cases h1 : (rd t).2 = 0
 ·rw [if_pos h1] at h ⊢
  by_cases h2 : putE s (rd t).1 = 0
  ·rw [if_pos h2] at h; exact absurd rfl h
  ·rw [if_neg h2]
 ·rw [if_neg h1]
theorem foldS_ok : ∀ (l : Txts) (s : TStable), SOk s → Short l → (foldS s l).2 = 0 → SOk (foldS s l).1 ∧ (foldS s l).1.Votes.length ≤ s.Votes.length + l.length
 | [], s, hs, _, _ => ⟨hs, by simp [foldS]⟩
 | t :: l, s, hs, hl, h => by
  rw [foldS] at h ⊢
  by_cases h0 : (stS s t).2 = 0
  ·rw [if_pos h0] at h ⊢
   obtain ⟨k1, k2⟩ := stS_ok hs (hl t (List.mem_cons_self ..)) h0
   obtain ⟨k3, k4⟩ := foldS_ok l _ k1 (fun x hx => hl x (List.mem_cons_of_mem _ hx)) h
   exact ⟨k3, by simp only [List.length_cons]; omega⟩
  ·rw [if_neg h0] at h
   exact absurd h h0
theorem foldS_bad : ∀ (l : Txts) (s : TStable), (foldS s l).2 ≠ 0 → (foldS s l).1 = eStb
 | [], s, h => absurd rfl h
 | t :: l, s, h => by
  rw [foldS] at h ⊢
  by_cases h0 : (stS s t).2 = 0
  ·rw [if_pos h0] at h ⊢
   exact foldS_bad l _ h
  ·rw [if_neg h0]
theorem foldS_app : ∀ (l m : Txts) (s : TStable), foldS s (l ++ m) = if (foldS s l).2 = 0 then foldS (foldS s l).1 m else foldS s l
 | [], m, s => by simp [foldS]
 | t :: l, m, s => by
  rw [List.cons_append, foldS, foldS]
  by_cases h0 : (stS s t).2 = 0
  ·rw [if_pos h0, if_pos h0]
   exact foldS_app l m _
  ·rw [if_neg h0, if_neg h0, if_neg h0]
theorem replay_loop : ∀ (l : Txts) (s : TStable), SOk s → Short l → s.Votes.length + l.length < 900000 →
  m_stable_Replay_loop1 l s.Logs s.Votes = some (if (foldS s l).2 = 0 then .inr ((foldS s l).1.Logs, (foldS s l).1.Votes) else .inl (eStb, (foldS s l).2))
 | [], s, _, _, _ => by rw [m_stable_Replay_loop1]; simp [foldS]
 | t :: l, s, hs, hl, hn => by
  have ht := hl t (List.mem_cons_self ..)
  simp only [List.length_cons] at hn
  have hsd : (⟨s.Logs, s.Votes⟩ : TStable) = s := rfl
  rw [m_stable_Replay_loop1, rd_eq t ht]
  simp only [Option.bind_some]
  have one : (if (rd t).2 = 0 then Option.bind (m_stable_put (⟨s.Logs, s.Votes⟩ : TStable) (rd t).1) fun v3 => some (v3.2.Logs, v3.2.Votes, v3.1) else some (s.Logs, s.Votes, (rd t).2)) =
    some (if (stS s t).2 = 0 then ((stS s t).1.Logs, (stS s t).1.Votes, 0) else (s.Logs, s.Votes, (stS s t).2)) := by
   unfold stS
   by_cases h1 : (rd t).2 = 0
   ·rw [if_pos h1, hsd, put_eq s _ hs (rd_ok t ht h1) (by omega)]
    simp only [Option.bind_some]
    by_cases h2 : putE s (rd t).1 = 0
    ·simp [h1, h2]
    ·simp [h1, h2]
   ·simp [h1]
  rw [foldS]
  refine (congrArg (fun o => Option.bind o _) one).trans ?_
  rw [Option.bind_some]
  by_cases h0 : (stS s t).2 = 0
  ·obtain ⟨k1, k2⟩ := stS_ok hs ht h0
   rw [if_pos h0, if_pos h0]
   simp only
   rw [if_neg (by simp)]
   exact replay_loop l _ k1 (fun x hx => hl x (List.mem_cons_of_mem _ hx)) (by omega)
  ·rw [if_neg h0, if_neg h0]
   simp only
   rw [if_pos h0, if_neg h0]; rfl
def newS (n : Int) : TStable := ⟨List.replicate n.toNat [], []⟩
theorem new_eq (n : Int) : m_stable_New n = some (if 1 ≤ n ∧ n ≤ 4 then (newS n, 0) else (eStb, 2)) := by
 rw [m_stable_New]
 by_cases h : 1 ≤ n ∧ n ≤ 4
 ·rw [if_neg (by omega), if_pos (by omega), if_pos h, List.take_of_length_le (by simp)]; rfl
 ·rw [if_pos (by omega), if_neg h]; rfl
theorem new_ok {n : Int} (h : 1 ≤ n ∧ n ≤ 4) : SOk (newS n) := by
 refine ⟨by unfold newS; simp; omega, fun l hl => ?_, (fun v hv => by cases hv), List.Pairwise.nil⟩
 unfold newS at hl
 rw [List.eq_of_mem_replicate hl]
 exact ⟨by simp, fun v hv => by cases hv⟩
theorem replay_eq (n : Int) (l : Txts) (hl : Short l) (hn : l.length ≤ 65536) : m_stable_Replay n l = some (if 1 ≤ n ∧ n ≤ 4 then foldS (newS n) l else (eStb, 2)) := by
 rw [m_stable_Replay, new_eq]
 simp only [Option.bind_some]
 by_cases h : 1 ≤ n ∧ n ≤ 4
 ·rw [if_pos h, if_pos h, if_neg (by simp), if_neg (by omega)]
  rw [replay_loop l (newS n) (new_ok h) hl (by unfold newS; simp; omega)]
  simp only [Option.bind_some]
  by_cases h0 : (foldS (newS n) l).2 = 0
  ·rw [if_pos h0]
   simp only
   rw [← h0]
  ·rw [if_neg h0]
   simp only
   rw [← foldS_bad _ _ h0]
 ·rw [if_neg h, if_neg h, if_pos (by decide)]; rfl
theorem eqs_loop (b : Txts) : ∀ (l : Txts) (n : Nat), b.drop n = l → m_slices_Equal_string_string_loop1 b l n = some (.inr ())
 | [], n, _ => by rw [m_slices_Equal_string_string_loop1]
 | y :: l, n, h => by
  have hn : n < b.length := by
   rcases Nat.lt_or_ge n b.length with h' | h'
   ·exact h'
   ·rw [List.drop_of_length_le h'] at h; cases h
  have hd := h
  rw [List.drop_eq_getElem_cons hn] at hd
  obtain ⟨hy, hr⟩ := List.cons.inj hd
  have e : b.getD n default = y := by rw [List.getD_eq_getElem?_getD, List.getElem?_eq_getElem hn, hy]; rfl
  rw [m_slices_Equal_string_string_loop1, if_pos hn, e, if_neg (by simp), eqs_loop b l (n + 1) hr]
theorem eqs_refl (l : Txts) : m_slices_Equal_string_string l l = some true := by
 rw [m_slices_Equal_string_string, if_neg (by simp), eqs_loop l l 0 rfl]
 rfl
theorem eqv_loop (b : List TSeen) : ∀ (l : List TSeen) (n : Nat), b.drop n = l → m_slices_Equal_Seen_Seen_loop1 b l n = some (.inr ())
 | [], n, _ => by rw [m_slices_Equal_Seen_Seen_loop1]
 | y :: l, n, h => by
  have hn : n < b.length := by
   rcases Nat.lt_or_ge n b.length with h' | h'
   ·exact h'
   ·rw [List.drop_of_length_le h'] at h; cases h
  have hd := h
  rw [List.drop_eq_getElem_cons hn] at hd
  obtain ⟨hy, hr⟩ := List.cons.inj hd
  have e : b.getD n default = y := by rw [List.getD_eq_getElem?_getD, List.getElem?_eq_getElem hn, hy]; rfl
  rw [m_slices_Equal_Seen_Seen_loop1, if_pos hn, e, if_neg (by simp), eqv_loop b l (n + 1) hr]
theorem eqv_refl (l : List TSeen) : m_slices_Equal_Seen_Seen l l = some true := by
 rw [m_slices_Equal_Seen_Seen, if_neg (by simp), eqv_loop l l 0 rfl]
 rfl
theorem eql_loop (b : List Txts) : ∀ (l : List Txts) (n : Nat), b.drop n = l → m_slices_EqualFunc_string_string_string_string_loop1 b m_slices_Equal_string_string l n = some (.inr ())
 | [], n, _ => by rw [m_slices_EqualFunc_string_string_string_string_loop1]
 | y :: l, n, h => by
  have hn : n < b.length := by
   rcases Nat.lt_or_ge n b.length with h' | h'
   ·exact h'
   ·rw [List.drop_of_length_le h'] at h; cases h
  have hd := h
  rw [List.drop_eq_getElem_cons hn] at hd
  obtain ⟨hy, hr⟩ := List.cons.inj hd
  have e : b.getD n default = y := by rw [List.getD_eq_getElem?_getD, List.getElem?_eq_getElem hn, hy]; rfl
  rw [m_slices_EqualFunc_string_string_string_string_loop1, if_pos hn, e, eqs_refl]
  simp only [Option.bind_some]
  rw [if_neg (by simp), eql_loop b l (n + 1) hr]
theorem same_st (s : TStable) : m_stable_Same s s = some true := by
 rw [m_stable_Same, m_slices_EqualFunc_string_string_string_string, if_neg (by simp), eql_loop s.Logs s.Logs 0 rfl]
 simp only [Option.bind_some, if_true]
 rw [eqv_refl]
 rfl
theorem great_txt (l : Txts) : ∃ b, m_towncrierref01_Great l = some b := by
 have : ∀ (l : Txts) (a : Nat) (b : Int), ∃ c, m_towncrierref01_Great_loop1 l a b = some c := by
  intro l
  induction l with
  | nil => intro a b; exact ⟨_, m_towncrierref01_Great_loop1_n a b⟩
  | cons z l ih =>
   intro a b
   rw [m_towncrierref01_Great_loop1_c]
   split
   ·exact ih _ _
   ·exact ⟨_, rfl⟩
 obtain ⟨c, hc⟩ := this l 0 0
 rw [m_towncrierref01_Great, hc]
 exact ⟨_, rfl⟩
theorem short_wf {l : Txts} (h : wf (.imm 1 (l.map D.str) 4)) : Short l := by
 simp only [wf, wfL_iff, List.mem_map] at h
 intro t ht
 have := h.2 (by decide) (D.str t) ⟨t, ht, rfl⟩
 simpa only [wf] using this
end Go.Proofs
end
section
namespace Go.Proofs
open Go.Tm
set_option linter.unusedSimpArgs false
theorem on_stop : ∀ (l : Txts) (a : List Txts) (b : List TSeen) (e : Int), e ≠ 0 → m_towncrierlaw11_StableOn_loop1 l a b e = some (a, b, e)
 | [], a, b, e, _ => by rw [m_towncrierlaw11_StableOn_loop1]
 | t :: l, a, b, e, h => by rw [m_towncrierlaw11_StableOn_loop1, if_neg h]
theorem on_loop : ∀ (l : Txts) (s : TStable), SOk s → Short l → s.Votes.length + l.length < 900000 →
  m_towncrierlaw11_StableOn_loop1 l s.Logs s.Votes 0 = some ((foldS s l).1.Logs, (foldS s l).1.Votes, (foldS s l).2)
 | [], s, _, _, _ => by rw [m_towncrierlaw11_StableOn_loop1]; simp [foldS]
 | t :: l, s, hs, hl, hn => by
  have ht := hl t (List.mem_cons_self ..)
  simp only [List.length_cons] at hn
  rw [m_towncrierlaw11_StableOn_loop1, if_pos rfl, rd_eq t ht]
  simp only [Option.bind_some]
  have hsd : (⟨s.Logs, s.Votes⟩ : TStable) = s := rfl
  rw [hsd, apply_eq s _ (by omega), if_pos hs]
  simp only [Option.bind_some]
  rw [foldS]
  have one : (if ¬ ((rd t).2 = 0) then some ((if RecOk (rd t).1 then if putE s (rd t).1 = 0 then (putS s (rd t).1, (0 : Int)) else (eStb, putE s (rd t).1) else (eStb, 8)).1.Logs, (if RecOk (rd t).1 then if putE s (rd t).1 = 0 then (putS s (rd t).1, (0 : Int)) else (eStb, putE s (rd t).1) else (eStb, 8)).1.Votes, (rd t).2)
    else some ((if RecOk (rd t).1 then if putE s (rd t).1 = 0 then (putS s (rd t).1, (0 : Int)) else (eStb, putE s (rd t).1) else (eStb, 8)).1.Logs, (if RecOk (rd t).1 then if putE s (rd t).1 = 0 then (putS s (rd t).1, (0 : Int)) else (eStb, putE s (rd t).1) else (eStb, 8)).1.Votes, (if RecOk (rd t).1 then if putE s (rd t).1 = 0 then (putS s (rd t).1, (0 : Int)) else (eStb, putE s (rd t).1) else (eStb, 8)).2)) =
    some (if (rd t).2 = 0 then ((stS s t).1.Logs, (stS s t).1.Votes, (stS s t).2) else ((if RecOk (rd t).1 then if putE s (rd t).1 = 0 then (putS s (rd t).1, (0 : Int)) else (eStb, putE s (rd t).1) else (eStb, 8)).1.Logs, (if RecOk (rd t).1 then if putE s (rd t).1 = 0 then (putS s (rd t).1, (0 : Int)) else (eStb, putE s (rd t).1) else (eStb, 8)).1.Votes, (rd t).2)) := by
   by_cases h1 : (rd t).2 = 0
   ·have hr := rd_ok t ht h1
    rw [if_neg (by simpa using h1), if_pos h1]
    unfold stS
    rw [if_pos h1, if_pos hr]
   ·rw [if_pos h1, if_neg h1]
  refine (congrArg (fun o => Option.bind o _) one).trans ?_
  rw [Option.bind_some]
  by_cases h1 : (rd t).2 = 0
  ·rw [if_pos h1]
   simp only
   by_cases h0 : (stS s t).2 = 0
   ·obtain ⟨k1, k2⟩ := stS_ok hs ht h0
    rw [h0, if_pos rfl]
    exact on_loop l _ k1 (fun x hx => hl x (List.mem_cons_of_mem _ hx)) (by omega)
   ·rw [if_neg h0, on_stop _ _ _ _ h0, stS_bad h0]
  ·rw [if_neg h1]
   simp only
   have e2 : (stS s t).2 = (rd t).2 := by unfold stS; rw [if_neg h1]
   rw [on_stop _ _ _ _ h1, e2, if_neg h1]
   have hz : (rd t).1 = ⟨0, 0, 0, 0, []⟩ := rd_bad t ht h1
   have : ¬ RecOk (rd t).1 := by rw [hz]; decide
   rw [if_neg this]
theorem on_law (a0 : Int) (a1 a2 : Txts) (hw : wfL [.int .i64 a0, .imm 1 (a1.map D.str) 4, .imm 1 (a2.map D.str) 4]) : m_towncrierlaw11_StableOn a0 a1 a2 = some true := by
 simp only [wfL] at hw
 obtain ⟨_, w1, w2, _⟩ := hw
 have s1 := short_wf w1
 have s2 := short_wf w2
 have s12 : Short (a1 ++ a2) := fun t ht => by
  rcases List.mem_append.1 ht with h | h
  ·exact s1 t h
  ·exact s2 t h
 obtain ⟨b1, hb1⟩ := great_txt a1
 obtain ⟨b2, hb2⟩ := great_txt a2
 rw [m_towncrierlaw11_StableOn, hb1, hb2]
 by_cases hL : (a1.length : Int) > 60 ∨ (a2.length : Int) > 60
 ·rw [if_neg (fun h => h hL)]
  simp only [Option.bind_some]
  rw [if_neg (fun h => h (.inl hL))]
  simp only [Option.bind_some]
  rw [if_pos (.inl (.inl hL))]
 ·rw [if_pos hL]
  simp only [Option.bind_some]
  by_cases hB : b1 = true
  ·rw [if_neg (fun h => h (.inr hB))]
   simp only [Option.bind_some]
   rw [if_pos (.inl (.inr hB))]
  ·rw [if_pos (fun h => h.elim hL hB)]
   simp only [Option.bind_some]
   by_cases hB2 : b2 = true
   ·rw [if_pos (.inr hB2)]
   ·rw [if_neg (fun h => h.elim (fun h => h.elim hL hB) hB2)]
    rw [replay_eq a0 a1 s1 (by omega)]
    simp only [Option.bind_some]
    rw [if_pos (by omega), if_pos (by omega), replay_eq a0 (a1 ++ a2) s12 (by rw [List.length_append]; omega)]
    simp only [Option.bind_some]
    by_cases h4 : 1 ≤ a0 ∧ a0 ≤ 4
    ·rw [if_pos h4, if_pos h4, foldS_app]
     by_cases h0 : (foldS (newS a0) a1).2 = 0
     ·obtain ⟨k1, k2⟩ := foldS_ok a1 _ (new_ok h4) s1 h0
      have hv : (newS a0).Votes.length = 0 := rfl
      rw [h0, on_loop a2 _ k1 s2 (by omega), if_pos rfl]
      simp only [Option.bind_some]
      generalize foldS (foldS (newS a0) a1).1 a2 = z
      by_cases h1 : z.2 = 0
      ·rw [if_neg (by simpa using h1), if_pos ⟨trivial, h1⟩]
       have : (⟨z.1.Logs, z.1.Votes⟩ : TStable) = z.1 := rfl
       rw [this, same_st]
       simp [h1]
      ·rw [if_pos h1]
       simp [h1]
     ·rw [if_neg h0, on_stop _ _ _ _ h0]
      simp only [Option.bind_some]
      rw [if_pos h0]
      simp [h0]
    ·rw [if_neg h4, if_neg h4, on_stop _ _ _ _ (by decide)]
     simp
end Go.Proofs
end
section
namespace Go.Tm
open Go.RowKit Go.WideShapes Go.ChangeShapes
def aggT (P : Program) (t : TypeId) : Bool := match P.underlying t with
 | some (.struct _) => true
 | _ => false
def mkD (P : Program) (t : TypeId) (l : List D) : D := bif aggT P t then .agg l else l.headD .undef
def fieldsIn (P : Program) (chk : TypeId → Bool) : Nat → List Field → Nat → Bool
 | off, [], tot => Nat.beq off tot
 | off, f :: fs, tot => Nat.beq f.offset off && chk f.type && fieldsIn P chk (off + P.cellsOf f.type) fs tot
def dataT (P : Program) : Nat → TypeId → Bool
 | 0, _ => false
 | n + 1, t => match P.underlying t with
  | some .bool => true
  | some (.int _) => true
  | some .string => true
  | some (.slice e) => dataT P n e && Nat.blt 0 (P.cellsOf e) && (aggT P e || Nat.beq (P.cellsOf e) 1)
  | some (.struct fs) => fieldsIn P (dataT P n) 0 fs.toList (P.cellsOf t)
  | _ => false
def typedL (p : TypeId → List D → Prop) : List TypeId → List D → Prop
 | [], l => l = []
 | t :: ts, l => ∃ l1 l2, l = l1 ++ l2 ∧ p t l1 ∧ typedL p ts l2
def typed (P : Program) : Nat → TypeId → List D → Prop
 | 0, _, _ => False
 | n + 1, t, l => match P.underlying t with
  | some .bool => ∃ b, l = [.bool b]
  | some (.int k) => ∃ m, l = [.int k m]
  | some .string => ∃ s, l = [.str s]
  | some (.slice e) => ∃ xs : List (List D), l = [.imm (P.cellsOf e) (xs.map (mkD P e)) 4] ∧ ∀ x ∈ xs, typed P n e x
  | some (.struct fs) => typedL (typed P n) (fs.toList.map (·.type)) l
  | _ => False
theorem reps_append' {C : Cx} : ∀ {l1 l2 : List D} {v1 v2 : List Value}, reps C l1 v1 → reps C l2 v2 → reps C (l1 ++ l2) (v1 ++ v2)
 | [], l2, v1, v2, h1, h2 => by simp only [reps] at h1; subst h1; simpa using h2
 | d :: ds, l2, v1, v2, h1, h2 => by
  simp only [reps] at h1
  obtain ⟨v, vs, rfl, hd, h1⟩ := h1
  simp only [List.cons_append, reps]
  exact ⟨v, vs ++ v2, rfl, hd, reps_append' h1 h2⟩
theorem elems_of {C : Cx} {b s : Nat} {p : List D → Prop} {f : List D → D} : ∀ (n o : Nat), (∀ i, i < n → ∃ l v, p l ∧ rep C (f l) v ∧ v.cells.size = s ∧ v.cells.toList.all (·.oneCell') = true ∧ C.w.rangeAt b (o + i * s) v.cells.toList) →
  ∃ xs : List (List D), xs.length = n ∧ elems C (xs.map f) b o s ∧ ∀ x ∈ xs, p x
 | 0, o, _ => ⟨[], rfl, by simp only [List.map_nil, elems], by simp⟩
 | n + 1, o, h => by
  obtain ⟨l, v, h1, h2, h3, h4, h5⟩ := h 0 (by omega)
  obtain ⟨xs, g1, g2, g3⟩ := elems_of n (o + s) (fun i hi => by
   obtain ⟨l, v, h1, h2, h3, h4, h5⟩ := h (i + 1) (by omega)
   exact ⟨l, v, h1, h2, h3, h4, by rwa [show o + (i + 1) * s = o + s + i * s by rw [Nat.add_mul]; omega] at h5⟩)
  refine ⟨l :: xs, by simp [g1], ?_, by simpa using ⟨h1, g3⟩⟩
  simp only [List.map_cons, elems]
  exact ⟨⟨v, h2, h3, h4, by simpa using h5⟩, g2⟩
theorem fieldsIn_le {P : Program} {chk : TypeId → Bool} : ∀ (fs : List Field) (off tot : Nat), fieldsIn P chk off fs tot = true → off ≤ tot
 | [], off, tot, h => Nat.le_of_eq (Nat.eq_of_beq_eq_true h)
 | f :: fs, off, tot, h => by
  simp only [fieldsIn, Bool.and_eq_true] at h
  have := fieldsIn_le fs _ _ h.2
  omega
section
variable {H : Type} {enc : TypeId × Value → H} {P : Program} {w : World} {sp : Nat → Bool}
theorem trod_reps : ∀ (n fuel : Nat) (t : TypeId) (cs : List Value) (x : DataW H × List MemPlace) (C : Cx), C.w = w → (∀ b, ¬ C.M b) → (∀ b, C.Z b) → dataT P n t = true → DataW.trod enc P w 0 sp true fuel t cs = some x →
  ∃ l, reps C l cs ∧ typed P n t l ∧ cs.all (·.oneCell') = true
 | 0, _, _, _, _, _, _, _, _, h, _ => by simp [dataT] at h
 | n + 1, fuel, t, cs, x, C, hw, hM, hlo, hd, h => by
  unfold dataT at hd
  split at hd
  ·rename_i ht
   simp only [typed, ht]
   obtain ⟨b, rfl, _⟩ := DataW.trod_bool ht h
   exact ⟨[.bool b], by simp only [reps, rep]; exact ⟨_, _, rfl, rfl, rfl⟩, ⟨b, rfl⟩, rfl⟩
  ·rename_i k ht
   simp only [typed, ht]
   obtain ⟨m, rfl, _, hwf⟩ := DataW.trod_int ht h
   simp only [Lit.wf, Bool.and_eq_true, decide_eq_true_eq] at hwf
   exact ⟨[.int k m], by simp only [reps, rep]; exact ⟨_, _, rfl, ⟨rfl, hwf⟩, rfl⟩, ⟨m, rfl⟩, rfl⟩
  ·rename_i ht
   simp only [typed, ht]
   obtain ⟨s, rfl, _, hs⟩ := DataW.trod_string ht h
   refine ⟨[.str s.data.toList], ?_, ⟨_, rfl⟩, rfl⟩
   simp only [reps, rep]
   refine ⟨_, _, rfl, ⟨by rw [Array.toArray_toList], ?_⟩, rfl⟩
   have h1 : s.data.toList.length = s.size := by rw [Array.length_toList]; rfl
   have h2 : s.size ≤ 9223372036854775807 := hs
   rw [h1]; omega
  ·rename_i e ht
   simp only [typed, ht]
   simp only [Bool.and_eq_true, Bool.or_eq_true] at hd
   obtain ⟨⟨hde, hpos⟩, hone⟩ := hd
   have hpos : 0 < P.cellsOf e := Nat.le_of_ble_eq_true hpos
   rcases DataW.trod_slice ht h with ⟨rfl, _⟩ | ⟨a, len, cap, els, rest, m, _, rfl, _, hb, hl, hc, hlen, hel, _⟩
   ·refine ⟨[.imm (P.cellsOf e) (([] : List (List D)).map (mkD P e)) 4], ?_, ⟨[], rfl, fun _ h => by cases h⟩, rfl⟩
    simp only [reps, rep, List.map_nil, List.length_nil]
    exact ⟨_, _, rfl, ⟨none, 0, rfl, by simp, by simp, by simp, by simp, by simp, by simp, by simp, .inl trivial⟩, rfl⟩
   ·have hc : cap ≤ 9223372036854775807 := hc
    have key : ∀ i, i < len → ∃ l v, typed P n e l ∧ rep (C.at C.Z) (mkD P e l) v ∧ v.cells.size = P.cellsOf e ∧ v.cells.toList.all (·.oneCell') = true ∧ (i = 0 → a.spot = none) ∧ a.block < w.heap.size ∧ w.rangeAt a.block (a.off + i * P.cellsOf e) v.cells.toList := by
     intro i hi
     have hi' := hel i hi
     have hsome : els[i]? = some els[i] := List.getElem?_eq_getElem (by omega)
     rw [hsome, Option.bind_eq_some_iff] at hi'
     obtain ⟨cs', hcs, htr⟩ := hi'
     obtain ⟨_, hclen, hcell⟩ := World.cells?_some hcs
     obtain ⟨l, g1, g2, g3⟩ := trod_reps n m e cs' _ (C.at C.Z) (by simpa [Cx.at] using hw) (by simpa [Cx.at] using hM) (by simpa [Cx.at] using hlo) hde htr
     have h0 := hcell 0 hpos
     have hc0 : cs'[0]? = some cs'[0] := List.getElem?_eq_getElem (by omega)
     rw [hc0] at h0
     have hadd : ∀ j, ((a.add (i * P.cellsOf e)).add j).block = a.block := by intro j; unfold Addr.add; split <;> split <;> rfl
     have hblk : a.block < w.heap.size ∧ ((a.add (i * P.cellsOf e)).add 0).spot = none := by
      unfold World.cell? at h0
      rw [hadd] at h0
      split at h0
      ·rename_i c T fz hh
       have := (Array.getElem?_eq_some_iff.1 hh).1
       split at h0
       ·cases h0
       ·rename_i hs; exact ⟨this, by simpa using hs⟩
      ·cases h0
     have hspot0 : (a.add (i * P.cellsOf e)).spot = none := by simpa [Addr.add] using hblk.2
     have hae : ∀ j, j < P.cellsOf e → (a.add (i * P.cellsOf e)).add j = ⟨a.block, a.off + i * P.cellsOf e + j, none⟩ := by
      intro j _
      unfold Addr.add at hspot0 ⊢
      split at hspot0
      ·rename_i hz
       simp only [hz, if_true, Nat.add_zero]
       split
       ·rename_i hj; subst hj; cases a; simp_all
       ·rfl
      ·rename_i hz
       simp only [hz, if_false]
       split
       ·rename_i hj; subst hj; rfl
       ·rfl
     have hrange : w.rangeAt a.block (a.off + i * P.cellsOf e) cs' := by
      intro j v hj
      have hjl := (List.getElem?_eq_some_iff.1 hj).1
      have := hcell j (by omega)
      rw [hae j (by omega), hj] at this
      exact this
     cases hag : aggT P e with
     | true =>
      refine ⟨l, .agg cs'.toArray, g2, ?_, by simp [Value.cells, hclen], by simpa [Value.cells] using g3, ?_, hblk.1, by simpa [Value.cells] using hrange⟩
      ·simp only [mkD, hag, cond_true, rep]
       exact ⟨cs', rfl, g1⟩
      ·rintro rfl; simpa [Addr.add] using hspot0
     | false =>
      rw [hag] at hone
      have h1 : P.cellsOf e = 1 := by simpa using hone
      rw [h1] at hclen
      obtain ⟨v, rfl⟩ := List.length_eq_one_iff.1 hclen
      obtain ⟨d, rfl⟩ : ∃ d, l = [d] := List.length_eq_one_iff.1 ((reps_length _ _ g1).symm.trans rfl)
      simp only [reps] at g1
      obtain ⟨v', vs', hv, hd, rfl⟩ := g1
      obtain rfl : v = v' := (List.cons.inj hv).1
      have hcv : v.cells = #[v] := by
       simp only [List.all_cons, List.all_nil, Bool.and_true] at g3
       cases v <;> first | rfl | simp [Value.oneCell'] at g3
      refine ⟨[d], v, g2, by simpa [mkD, hag] using hd, by simp [hcv, h1], by simpa [hcv] using g3, ?_, hblk.1, by simpa [hcv] using hrange⟩
      rintro rfl; simpa [Addr.add] using hspot0
    obtain ⟨xs, g1, g2, g3⟩ := elems_of (C := C.at C.Z) (b := a.block) (s := P.cellsOf e) (p := typed P n e) (f := mkD P e) len a.off (fun i hi => by
     obtain ⟨l, v, h1, h2, h3, h4, _, _, h5⟩ := key i hi
     exact ⟨l, v, h1, h2, h3, h4, by subst hw; exact h5⟩)
    refine ⟨[.imm (P.cellsOf e) (xs.map (mkD P e)) 4], ?_, ⟨xs, rfl, g3⟩, rfl⟩
    simp only [reps, rep, List.length_map, g1]
    refine ⟨_, _, rfl, ⟨some a, cap, rfl, hl, by omega, by simp, by simp, by simp, by simp, by simp, ?_⟩, rfl⟩
    rcases Nat.eq_zero_or_pos len with h0 | h0
    ·left; subst h0; have := List.length_eq_zero_iff.1 g1; simp [this]
    ·right
     obtain ⟨_, _, _, _, _, _, k1, k2, _⟩ := key 0 h0
     intro Z hZ
     have hZ : C.Z = Z := by simpa [Cx.zone] using hZ
     subst hZ
     exact ⟨a, rfl, k1 rfl, hM _, hlo _, by rw [hw]; exact k2, g2⟩
  ·rename_i fs ht
   simp only [typed, ht]
   obtain ⟨xs, m, _, _, hcl, hxl, hf⟩ := DataW.trod_struct ht h
   have key : ∀ (gs : List Field) (k : Nat), (∀ i f, gs[i]? = some f → fs[k + i]? = some f) → ∀ off, fieldsIn P (dataT P n) off gs (P.cellsOf t) = true → off ≤ cs.length → 
     ∃ l, reps C l (cs.drop off) ∧ typedL (typed P n) (gs.map (·.type)) l ∧ (cs.drop off).all (·.oneCell') = true := by
    intro gs
    induction gs with
    | nil =>
     intro k _ off ho _
     simp only [fieldsIn] at ho
     have ho := Nat.eq_of_beq_eq_true ho
     have : cs.drop off = [] := by rw [ho, ← hcl]; simp
     rw [this]
     exact ⟨[], by simp only [reps], rfl, rfl⟩
    | cons f gs ih =>
     intro k hk off ho hle
     simp only [fieldsIn, Bool.and_eq_true] at ho
     obtain ⟨⟨h1, h2⟩, h3⟩ := ho
     have h1 := Nat.eq_of_beq_eq_true h1
     have hfk := hf k f (by simpa using hk 0 f rfl)
     have hkl : k < xs.length := by
      have := hk 0 f rfl
      rw [hxl]
      exact (Array.getElem?_eq_some_iff.1 (by simpa using this)).1
     rw [List.getElem?_eq_getElem hkl, h1] at hfk
     obtain ⟨l1, g1, g2, g3⟩ := trod_reps n m f.type _ _ C hw hM hlo h2 hfk
     have hl1 : ((cs.drop off).take (P.cellsOf f.type)).length = P.cellsOf f.type := by
      have := fieldsIn_le _ _ _ h3
      simp
      omega
     obtain ⟨l2, k1, k2, k3⟩ := ih (k + 1) (fun i f' hi => by have := hk (i + 1) f' (by simpa using hi); rwa [show k + (i + 1) = k + 1 + i by omega] at this) (off + P.cellsOf f.type) h3 (by
      simp at hl1; omega)
     have e : cs.drop off = (cs.drop off).take (P.cellsOf f.type) ++ cs.drop (off + P.cellsOf f.type) := by
      rw [← List.drop_drop, List.take_append_drop]
     refine ⟨l1 ++ l2, by rw [e]; exact reps_append' g1 k1, ⟨l1, l2, rfl, g2, k2⟩, by rw [e, List.all_append, g3, k3]; rfl⟩
   simpa using key fs.toList 0 (fun i f hi => by simpa using hi) 0 hd (Nat.zero_le _)
  ·cases hd
theorem trod_rep {r : Reach} {b0 n : Nat} {t : TypeId} {v : Value} {d : DataW H} {ps : List MemPlace} {fr : Nat} (hd : dataT P n t = true) (hval : Value.okWide P w r b0 t v) (h : DataW.Trod enc P w 0 sp true t v d ps) :
  ∃ l, typed P n t l ∧ rep (cx0 w fr) (mkD P t l) v := by
 obtain ⟨fuel, h⟩ := h
 obtain ⟨l, h1, h2, h3⟩ := trod_reps n fuel t _ _ (cx0 w fr) rfl (fun _ h => h) (fun _ => trivial) hd h
 refine ⟨l, h2, ?_⟩
 unfold mkD aggT
 cases n with
 | zero => simp [dataT] at hd
 | succ n =>
  unfold dataT at hd
  unfold Value.okWide at hval
  split at hd
  case h_5 fs ht =>
   rw [ht] at hval ⊢
   obtain ⟨cs, rfl, _⟩ := hval
   simp only [cond_true, rep]
   exact ⟨cs.toList, by simp, by simpa [Value.cells] using h1⟩
  case h_6 => cases hd
  all_goals
   rename_i ht
   rw [ht] at hval ⊢
   simp only [cond_false]
   have hcv : v.cells = #[v] := by
    cases v with
    | agg cs => simp [Cell.okWide, Cell.ok, ht] at hval
    | _ => rfl
   rw [hcv] at h1
   have hl : ∃ d, l = [d] := List.length_eq_one_iff.1 ((reps_length _ _ h1).symm.trans rfl)
   obtain ⟨d, rfl⟩ := hl
   simp only [reps] at h1
   obtain ⟨v', vs', hv, hd', _⟩ := h1
   obtain rfl : v = v' := by simpa using (List.cons.inj hv).1
   exact hd'
def typedAll (P : Program) (n : Nat) : List TypeId → List D → Prop
 | [], l => l = []
 | t :: ts, l => ∃ c r, l = mkD P t c :: r ∧ typed P n t c ∧ typedAll P n ts r
theorem trodAll_reps {r : Reach} {b0 n fr : Nat} : ∀ {ts : List TypeId} {vs : List Value} {ds : List (DataW H)} {ps : List MemPlace}, ts.all (dataT P n) = true → (∀ (j : Nat) t v, ts[j]? = some t → vs[j]? = some v → Value.okWide P w r b0 t v) →
  DataW.TrodAll enc P w 0 sp true ts vs ds ps → ∃ l, typedAll P n ts l ∧ reps (cx0 w fr) l vs
 | [], [], [], _, _, _, _ => ⟨[], rfl, by simp only [reps]⟩
 | t :: ts, v :: vs, d :: ds, ps, hd, hval, h => by
  obtain ⟨p, q, h1, h2, _⟩ := h
  simp only [List.all_cons, Bool.and_eq_true] at hd
  obtain ⟨c, g1, g2⟩ := trod_rep (fr := fr) hd.1 (hval 0 t v rfl rfl) h1
  obtain ⟨l, k1, k2⟩ := trodAll_reps hd.2 (fun j t v h h' => hval (j + 1) t v h h') h2
  exact ⟨_ :: l, ⟨c, l, rfl, g1, k1⟩, by simp only [reps]; exact ⟨_, _, rfl, g2, k2⟩⟩
 | [], _ :: _, _, _, _, _, h => h.elim
 | [], [], _ :: _, _, _, _, h => h.elim
 | _ :: _, [], _, _, _, _, h => h.elim
 | _ :: _, _ :: _, [], _, _, _, h => h.elim
theorem trodAll_stays (hl : laidOutB P = true) {W W' : World} (hB : Below W.heap.size W W') {sp' : Nat → Bool} : ∀ {ts : List TypeId} {vs : List Value} {ds : List (DataW H)} {ps : List MemPlace}, (ts.all fun t => P.readableRec t && Nat.blt t P.types.size) = true →
  DataW.TrodAll enc P W 0 (fun _ => true) true ts vs ds ps → (∀ p ∈ ps, p.block < W.heap.size ∧ sp' p.block = true) → DataW.TrodAll enc P W' 0 sp' true ts vs ds ps
 | [], [], [], _, _, h, _ => h
 | t :: ts, v :: vs, d :: ds, ps, hr, h, hp => by
  obtain ⟨p, q, h1, h2, rfl⟩ := h
  simp only [List.all_cons, Bool.and_eq_true] at hr
  refine ⟨p, q, WideElems.Trod_stays hl hr.1.1 (Nat.le_of_ble_eq_true hr.1.2) h1 (fun x hx => hB.same (hp x (by simp [hx])).1) (fun x hx => (hp x (by simp [hx])).2), ?_, rfl⟩
  exact trodAll_stays hl hB hr.2 h2 fun x hx => hp x (by simp [hx])
 | [], _ :: _, _, _, _, h, _ => h.elim
 | [], [], _ :: _, _, _, h, _ => h.elim
 | _ :: _, [], _, _, _, h, _ => h.elim
 | _ :: _, _ :: _, [], _, _, h, _ => h.elim
theorem law_contract {K : FuncId} {f : Func} {s : ChangeSpec} {apart fresh : Bool} {n : Nat} {tb : TypeId} (hl : laidOutB P = true) (hr : (f.params.toList.all fun t => P.readableRec t && Nat.blt t P.types.size) = true)
  (hd : f.params.toList.all (dataT P n) = true) (hvars : s.vars = []) (hres : f.resultTypes = #[tb]) (hb : P.underlying tb = some .bool)
  (hfn : ∀ ds : List (DataW H), ds.length = f.params.size → s.fn H ds = { results := [.lit (.bool true)], args := ds })
  (hK : ∀ l, typedAll P n f.params.toList l → CallP P K l (.bool true)) {W : World} {base : Nat} {args : Array Value} {ds gs : List (DataW H)} {before : List MemPlace}
  (hval : ∀ (j : Nat) t v, f.params[j]? = some t → args[j]? = some v → Value.okWide P W .any base t v) (hW : DataW.Whole enc P f.params.toList s.vars apart W args.toList ds gs before) :
  Calls P K args W fun e W' => ∃ v, e = .returned v ∧ s.post enc P f apart fresh false false W args v W' := by
 have hW' := hW
 obtain ⟨p, q, hA, hV, rfl, hfz, hnd⟩ := hW
 rw [hvars] at hV
 have hlen : ds.length = f.params.size := by
  have : ∀ {ts : List TypeId} {vs : List Value} {ds : List (DataW H)} {ps : List MemPlace}, DataW.TrodAll enc P W 0 (fun _ => true) true ts vs ds ps → ds.length = ts.length := by
   intro ts
   induction ts with
   | nil => intro vs ds ps h; cases vs <;> cases ds <;> first | rfl | exact h.elim
   | cons t ts ih => intro vs ds ps h; cases vs <;> cases ds <;> first | (obtain ⟨_, _, _, h2, _⟩ := h; simp [ih h2]) | exact h.elim
  simpa using this hA
 have hgs : gs = [] ∧ q = [] := by
  cases gs with
  | nil => exact ⟨rfl, hV⟩
  | cons g gs => exact hV.elim
 obtain ⟨rfl, rfl⟩ := hgs
 obtain ⟨l, h1, h2⟩ := trodAll_reps (fr := W.heap.size) hd (fun j t v h h' => hval j t v (by simpa using h) (by simpa using h')) hA
 refine ((hK l h1).2 W _ h2).mono fun e W' ⟨v, he, hk, _, hv⟩ => ⟨v, he, ?_⟩
 simp only [rep] at hv
 subst hv
 have hB := hk.below
 have hlt := hW'.lt
 have hf := hfn ds hlen
 refine ⟨ds, [], p ++ [], [], p, [], hW', ?_, ?_, ?_, ?_, fun h => by cases h⟩
 ·rw [List.append_nil, hf, hres]
  exact ⟨[], [], ⟨1, by simp [DataW.trod, Value.cells, hb]⟩, rfl, rfl⟩
 ·rw [List.append_nil, hf]
  exact trodAll_stays hl hB hr hA fun x hx => ⟨hlt x (by simp [hx]), by simpa using hlt x (by simp [hx])⟩
 ·rw [List.append_nil, hf, hvars]
  rfl
 ·exact hB.frame _
end
theorem list_of {α : Type} {f : α → D} {g : List D → D} : ∀ (xs : List (List D)), (∀ x ∈ xs, ∃ y, g x = f y) → ∃ l : List α, xs.map g = l.map f
 | [], _ => ⟨[], rfl⟩
 | x :: xs, h => by
  obtain ⟨y, hy⟩ := h x (by simp)
  obtain ⟨l, hl⟩ := list_of xs fun x hx => h x (by simp [hx])
  exact ⟨y :: l, by simp only [List.map_cons, hy, hl]⟩
section
variable {P : Program} {n : Nat} {t : TypeId} {l : List D}
theorem mkD_one {d : D} (ha : aggT P t = false) : mkD P t [d] = d := by simp only [mkD, ha, cond_false, List.headD_cons]
theorem typed_int {k : IntKind} (hu : P.underlying t = some (.int k)) (h : typed P (n + 1) t l) : ∃ m, l = [.int k m] := by
 rw [typed, hu] at h; exact h
theorem typed_str (hu : P.underlying t = some .string) (h : typed P (n + 1) t l) : ∃ s, l = [.str s] := by
 rw [typed, hu] at h; exact h
theorem typed_list {α : Type} (f : α → D) {e : TypeId} {s : Nat} (hu : P.underlying t = some (.slice e)) (ha : aggT P t = false) (hc : P.cellsOf e = s) (hx : ∀ x, typed P n e x → ∃ y, mkD P e x = f y) (h : typed P (n + 1) t l) :
  ∃ m : List α, mkD P t l = .imm s (m.map f) 4 := by
 rw [typed, hu] at h
 obtain ⟨xs, rfl, hxs⟩ := h
 obtain ⟨m, hm⟩ := list_of (f := f) (g := mkD P e) xs fun x hx' => hx x (hxs x hx')
 exact ⟨m, by rw [mkD_one ha, hm, hc]⟩
theorem typed_one {e : TypeId} (hu : P.underlying t = some (.slice e)) (h : typed P (n + 1) t l) : ∃ d, l = [d] := by
 rw [typed, hu] at h
 obtain ⟨xs, rfl, _⟩ := h
 exact ⟨_, rfl⟩
theorem typedAll_cons {ts : List TypeId} (h : typedAll P n (t :: ts) l) : ∃ c r, l = mkD P t c :: r ∧ typed P n t c ∧ typedAll P n ts r := h
theorem typedAll_nil (h : typedAll P n [] l) : l = [] := h
end
end Go.Tm
end
section
namespace Go.Proofs.Ytkfipajabmhkbaa.stableOn
open Go.ChangeShapes Go.WideShapes Go.RowKit Go.Tm
set_option maxRecDepth 100000
theorem own : ownKnob Try.prog.godebug = none := by kernel_rfl
theorem agg3 : aggT Try.prog 3 = false := by kernel_rfl
theorem agg34 : aggT Try.prog 34 = false := by kernel_rfl
theorem agg9 : aggT Try.prog 9 = false := by kernel_rfl
theorem cells9 : Try.prog.cellsOf 9 = 1 := by kernel_rfl
theorem tc34 {n : Nat} {l : List D} (h : typed Try.prog (n + 2) 34 l) : ∃ m : List (List UInt8), l = [.imm 1 (m.map D.str) 4] := by
 obtain ⟨d, hd⟩ := typed_one Try.underlying34 h
 obtain ⟨m, hm⟩ := typed_list D.str Try.underlying34 agg34 cells9 (fun x hx => by
  obtain ⟨a, ha⟩ := typed_str Try.underlying9 hx
  exact ⟨a, ha ▸ mkD_one agg9⟩) h
 rw [hd, mkD_one agg34] at hm
 exact ⟨m, by rw [hd, hm]⟩
theorem params6 : Try.f6.params.toList = [3, 34, 34] := by kernel_rfl
theorem hK (l : List D) (h : typedAll Try.prog 8 Try.f6.params.toList l) : CallP Try.prog 6 l (.bool true) := by
 rw [params6] at h
 obtain ⟨c0, r0, e0, h0, h⟩ := typedAll_cons h
 obtain ⟨c1, r1, e1, h1, h⟩ := typedAll_cons h
 obtain ⟨c2, r2, e2, h2, h⟩ := typedAll_cons h
 have ez := typedAll_nil h
 obtain ⟨a0, f0⟩ := typed_int Try.underlying3 h0
 obtain ⟨a1, f1⟩ := tc34 (n := 6) h1
 obtain ⟨a2, f2⟩ := tc34 (n := 6) h2
 rw [e0, e1, e2, ez, f0, f1, f2, mkD_one agg3, mkD_one agg34]
 exact callP_wf ⟨Try.f6, Try.func6, by decide, rfl⟩ fun hw => callP_towncrierlaw11_StableOn a0 a1 a2 _ (on_law a0 a1 a2 hw)
set_option maxRecDepth 100000 in
theorem lifted (os : Os) (started : os.Started) (H : Type) (enc : TypeId × Value → H) :
  ReturnsInHanded {} Try.checked os 6 .any (Rows.stableOnSpec.pre6 enc Try.prog Try.f6 Rows.stableOnRow.domain false) (Rows.stableOnSpec.post enc Try.prog Try.f6 false true false false) := by
 refine returnsInHanded_of_change (C := Try.checked) own started (by kernel_rfl) Try.func6
  (ChangeSpec.witness6 (enc := enc) (C := Try.checked) false ⟨#[], #[.int .i64 0, .slice none 0 0, .slice none 0 0], []⟩ 8 (by kernel_rfl) (by kernel_rfl) (by kernel_rfl) (by kernel_rfl)) ?_
 intro W base args ds gs before hval hW _ _
 exact law_contract (K := 6) (n := 8) (tb := 4) (by kernel_rfl) (by kernel_rfl) (by kernel_rfl) rfl rfl Try.underlying4 (fun ds h => by
  match ds, h with
  | [_, _, _], _ => rfl) hK hval hW
end Go.Proofs.Ytkfipajabmhkbaa.stableOn
end

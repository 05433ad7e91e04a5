/- Texts of the proof. -/
import Derived.Test.YtkfipajabmhkbaaStableReplaysPl
import Derived.Test.YtkfipajabmhkbaaStableReplaysPj
import Derived.Test.YtkfipajabmhkbaaStableReplaysPk
import Derived.Test.YtkfipajabmhkbaaStableReplaysPf
import Derived.Test.YtkfipajabmhkbaaStableReplaysPg
import Derived.Test.YtkfipajabmhkbaaStableReplaysPi
import Derived.Test.YtkfipajabmhkbaaStableReplaysPh
section
namespace Go.Proofs
open Go.Tm
set_option linter.unusedSimpArgs false
theorem i64w {n : Int} (h1 : 0 ≤ n) (h2 : n ≤ 9223372036854775807) : IntKind.i64.wrap n = n := by
 simp [IntKind.wrap, IntKind.bits, IntKind.signed]; omega
theorem bv64 (a : Nat) (h : a < 18446744073709551616) : (BitVec.ofInt 64 (a : Int)).toNat = a := by
 rw [BitVec.ofInt_natCast, BitVec.toNat_ofNat]; exact Nat.mod_eq_of_lt (by omega)
theorem and64 (a b : Nat) (ha : a < 9223372036854775808) (hb : b < 9223372036854775808) : bitw .and .i64 (a : Int) (b : Int) = ((a &&& b : Nat) : Int) := by
 have hx : a &&& b < 2 ^ 63 := Nat.and_lt_two_pow _ (by omega)
 unfold bitw
 show IntKind.i64.wrap ((BitVec.ofInt 64 (a : Int) &&& BitVec.ofInt 64 (b : Int)).toNat : Int) = _
 rw [BitVec.toNat_and, bv64 a (by omega), bv64 b (by omega)]
 exact i64w (by omega) (by omega)
theorem or64 (a b : Nat) (ha : a < 9223372036854775808) (hb : b < 9223372036854775808) : bitw .or .i64 (a : Int) (b : Int) = ((a ||| b : Nat) : Int) := by
 have hx : a ||| b < 2 ^ 63 := Nat.or_lt_two_pow (by omega) (by omega)
 unfold bitw
 show IntKind.i64.wrap ((BitVec.ofInt 64 (a : Int) ||| BitVec.ofInt 64 (b : Int)).toNat : Int) = _
 rw [BitVec.toNat_or, bv64 a (by omega), bv64 b (by omega)]
 exact i64w (by omega) (by omega)
theorem bv8 (a : Nat) (h : a < 256) : (BitVec.ofInt 8 (a : Int)).toNat = a := by
 rw [BitVec.ofInt_natCast, BitVec.toNat_ofNat]; exact Nat.mod_eq_of_lt (by omega)
theorem and8 (a : Nat) (ha : a < 256) : bitw .and .u8 (a : Int) 127 = ((a % 128 : Nat) : Int) := by
 have e := Nat.and_two_pow_sub_one_eq_mod a 7
 simp only [Nat.reducePow, Nat.reduceSub] at e
 unfold bitw
 show IntKind.u8.wrap ((BitVec.ofInt 8 (a : Int) &&& BitVec.ofInt 8 ((127 : Nat) : Int)).toNat : Int) = _
 rw [BitVec.toNat_and, bv8 a ha, bv8 127 (by decide), e]
 simp [IntKind.wrap, IntKind.bits, IntKind.signed]; omega
theorem and127 (a : Nat) (ha : a < 9223372036854775808) : bitw .and .i64 (a : Int) 127 = ((a % 128 : Nat) : Int) := by
 have e := Nat.and_two_pow_sub_one_eq_mod a 7
 simp only [Nat.reducePow, Nat.reduceSub] at e
 have := and64 a 127 ha (by decide)
 rw [e] at this
 exact this
theorem and255 (a : Nat) (ha : a < 9223372036854775808) : bitw .and .i64 (a : Int) 255 = ((a % 256 : Nat) : Int) := by
 have e := Nat.and_two_pow_sub_one_eq_mod a 8
 simp only [Nat.reducePow, Nat.reduceSub] at e
 have := and64 a 255 ha (by decide)
 rw [e] at this
 exact this
theorem or128 (a : Nat) (ha : a < 128) : bitw .or .i64 (a : Int) 128 = ((a + 128 : Nat) : Int) := by
 have e := Nat.two_pow_add_eq_or_of_lt (i := 7) (b := a) (by omega) 1
 simp only [Nat.reducePow, Nat.mul_one] at e
 have := or64 a 128 (by omega) (by decide)
 rw [Nat.or_comm, ← e, Nat.add_comm] at this
 exact this
theorem wr8 {n : Nat} (h : n < 256) : wr .u8 (n : Int) = (n : Int) := wr_eq _ _ (by show (0 : Int) ≤ _; omega) (by show _ ≤ (255 : Int); omega)
theorem sh7 (n : Nat) : shw false .i64 (n : Int) 7 = ((n / 128 : Nat) : Int) := by
 unfold shw
 show Int.fdiv (n : Int) 128 = _
 rw [Int.fdiv_eq_ediv_of_nonneg _ (by omega)]
 omega
def enc (n : Nat) : List Int := if n < 128 then [(n : Int)] else ((n % 128 + 128 : Nat) : Int) :: enc (n / 128)
termination_by n
decreasing_by omega
theorem enc_lt {n : Nat} (h : n < 128) : enc n = [(n : Int)] := by rw [enc, if_pos h]
theorem enc_ge {n : Nat} (h : ¬ n < 128) : enc n = ((n % 128 + 128 : Nat) : Int) :: enc (n / 128) := by rw [enc, if_neg h]
theorem enc_len : ∀ (k n : Nat), n < 128 ^ (k + 1) → (enc n).length ≤ k + 1
 | 0, n, h => by rw [enc_lt (by simpa using h)]; simp
 | k + 1, n, h => by
  by_cases h1 : n < 128
  ·rw [enc_lt h1]; simp
  ·rw [enc_ge h1, List.length_cons]
   have := enc_len k (n / 128) (by rw [Nat.pow_succ] at h; omega)
   omega
def Bytes (l : List Int) : Prop := ∀ x ∈ l, 0 ≤ x ∧ x < 256
theorem Bytes.app {a b : List Int} (h : Bytes a) (k : Bytes b) : Bytes (a ++ b) := fun x hx => (List.mem_append.1 hx).elim (h x) (k x)
theorem put_loop : ∀ (fu : Nat) (l : List Int) (n : Nat), n < 128 ^ fu → n < 9223372036854775808 → l.length + fu < 100000 → ∃ (I : List Int) (m : Nat), m_num_put_loop1 (fu + 1) l (n : Int) = some (l ++ I, (m : Int)) ∧ m < 128 ∧ enc n = I ++ [(m : Int)]
 | 0, l, n, h, _, _ => by
  have : n = 0 := by simpa using h
  subst this
  exact ⟨[], 0, by rw [m_num_put_loop1, if_neg (by decide), List.append_nil], by decide, enc_lt (by decide)⟩
 | fu + 1, l, n, h, h2, hl => by
  rw [m_num_put_loop1]
  by_cases h1 : n < 128
  ·rw [if_neg (by omega)]
   exact ⟨[], n, by rw [List.append_nil], h1, enc_lt h1⟩
  ·rw [if_pos (by omega), and127 n h2, or128 _ (by omega), wr8 (by omega), sh7, if_pos (by simp; omega)]
   obtain ⟨I, m, e1, e2, e3⟩ := put_loop fu (l ++ [((n % 128 + 128 : Nat) : Int)]) (n / 128) (by rw [Nat.pow_succ] at h; omega) (by omega) (by simp; omega)
   exact ⟨((n % 128 + 128 : Nat) : Int) :: I, m, by rw [e1, List.append_assoc]; rfl, e2, by rw [enc_ge h1, e3]; rfl⟩
theorem put_enc (n : Nat) (h : n < 9223372036854775808) : m_num_put (n : Int) = some (enc n) := by
 obtain ⟨I, m, e1, e2, e3⟩ := put_loop 10 [] n (by omega) h (by simp)
 rw [m_num_put, e1]
 simp only [Option.bind_some]
 have hi : I.length ≤ 10 := by
  have := enc_len 9 n (by omega)
  rw [e3] at this
  simp at this
  omega
 rw [if_pos (by simp; omega), wr8 (by omega), e3]; rfl
theorem in_eq (n : Int) : m_num_in n = some (decide (0 ≤ n ∧ n ≤ 1099511627776)) := by
 rw [m_num_in]
 congr 1
 rw [Bool.eq_iff_iff]
 simp
theorem Put_enc (n : Nat) (h : n ≤ 1099511627776) : m_num_Put (n : Int) = some (enc n, 0) := by
 rw [m_num_Put, in_eq]
 simp only [Option.bind_some]
 rw [decide_eq_true (by omega), if_neg (by simp), put_enc n (by omega)]; rfl
def pw : Nat → Nat
 | 0 => 1
 | 1 => 128
 | 2 => 16384
 | 3 => 2097152
 | 4 => 268435456
 | 5 => 34359738368
 | _ => 4398046511104
theorem pw_eq {i : Nat} (hi : i ≤ 5) : 2 ^ (7 * i) = pw i := by
 rcases (by omega : i = 0 ∨ i = 1 ∨ i = 2 ∨ i = 3 ∨ i = 4 ∨ i = 5) with rfl | rfl | rfl | rfl | rfl | rfl <;> rfl
theorem pw_le {i : Nat} (hi : i ≤ 5) : pw i ≤ 34359738368 := by
 rcases (by omega : i = 0 ∨ i = 1 ∨ i = 2 ∨ i = 3 ∨ i = 4 ∨ i = 5) with rfl | rfl | rfl | rfl | rfl | rfl <;> decide
theorem shl (x i : Nat) (hx : x < 128) (hi : i ≤ 5) : shw true .i64 (x : Int) (wr .i64 (7 * (i : Int))) = ((x * pw i : Nat) : Int) := by
 rw [wr_i (by omega) (by omega)]
 have hm : min (7 * (i : Int)).toNat 64 = 7 * i := by omega
 have h1 : x * pw i ≤ 127 * 34359738368 := Nat.mul_le_mul (by omega) (pw_le hi)
 unfold shw
 show IntKind.i64.wrap ((x : Int) * ((2 : Nat) : Int) ^ (min (7 * (i : Int)).toNat 64)) = _
 rw [hm, ← Int.natCast_pow, pw_eq hi, ← Int.natCast_mul]
 exact i64w (by omega) (by omega)
theorem orp (a x i : Nat) (ha : a < pw i) (hx : x < 128) (hi : i ≤ 5) : bitw .or .i64 (a : Int) ((x * pw i : Nat) : Int) = ((a + x * pw i : Nat) : Int) := by
 have key : ∀ k : Nat, pw i = 2 ^ k → a ||| (x * pw i) = a + x * pw i := by
  intro k hk
  rw [hk] at ha ⊢
  have e := Nat.two_pow_add_eq_or_of_lt (i := k) (b := a) ha x
  rw [Nat.or_comm, Nat.mul_comm x, ← e, Nat.add_comm]
 have hb := pw_le hi
 have hm : x * pw i ≤ 127 * 34359738368 := Nat.mul_le_mul (by omega) hb
 rw [or64 a _ (by omega) (by omega), key (7 * i) (pw_eq hi).symm]
theorem ofB_len (l : List UInt8) : (ofBytes l).length = l.length := by simp [ofBytes]
theorem ofB_bytes (l : List UInt8) : Bytes (ofBytes l) := by
 intro x hx
 simp only [ofBytes, List.mem_map] at hx
 obtain ⟨y, _, rfl⟩ := hx
 have := y.toNat_lt
 omega
def encT (v : List UInt8) : List Int := enc v.length ++ ofBytes v
theorem Text_enc (v : List UInt8) (h : v.length ≤ 1024) : m_num_Text v = some (encT v, 0) := by
 have h1 := enc_len 1 v.length (by omega)
 rw [m_num_Text, if_neg (by omega), put_enc _ (by omega)]
 simp only [Option.bind_some]
 rw [if_pos (by rw [ofB_len]; omega)]; rfl
theorem BOk.le {b : Int} (h : BOk b) (h1 : -9223372036854775808 ≤ b) (h2 : b ≤ 9223372036854775807) : b ≤ 8388613 := by
 have h3 := h.1
 have h4 := h.pos h1 h2
 rw [Int.tdiv_eq_ediv_of_nonneg (by omega), wr_i (by omega) (by omega)] at h3
 have h5 := h.2.2
 rw [Int.tmod_eq_emod_of_nonneg (by omega)] at h5
 omega
def recB (r : TRecord) : List Int := enc r.Kind.toNat ++ (enc r.Group.toNat ++ (enc r.Slot.toNat ++ ((if r.Kind = 1 ∨ r.Kind = 2 then enc r.Ballot.toNat else []) ++ (if r.Kind = 2 ∨ r.Kind = 3 then encT r.Value else []))))
def InR (r : TRecord) : Prop := -9223372036854775808 ≤ r.Ballot ∧ r.Ballot ≤ 9223372036854775807
theorem RecOk.nums {r : TRecord} (h : RecOk r) (hr : InR r) : ∃ k g s b : Nat, r.Kind = k ∧ r.Group = g ∧ r.Slot = s ∧ r.Ballot = b ∧ 1 ≤ k ∧ k ≤ 3 ∧ g < 4 ∧ s ≤ 200 ∧ b ≤ 8388613 := by
 obtain ⟨⟨g1, g2⟩, ⟨s1, s2⟩, hv, hk⟩ := h
 refine ⟨r.Kind.toNat, r.Group.toNat, r.Slot.toNat, r.Ballot.toNat, ?_⟩
 rcases hk with ⟨k, b, _⟩ | ⟨k, b⟩ | ⟨k, b⟩
 ·have := b.pos hr.1 hr.2; have := b.le hr.1 hr.2; omega
 ·have := b.pos hr.1 hr.2; have := b.le hr.1 hr.2; omega
 ·omega
theorem write1 (a c : List Int) (h : c.length + a.length < 1000000) : m_record_Write_1 a 0 c 0 = some (c ++ a, 0) := by
 rw [m_record_Write_1, if_pos h, if_pos rfl]
theorem write_eq (r : TRecord) (h : RecOk r) (hr : InR r) : m_record_Write r = some (toBytes (recB r), 0) := by
 obtain ⟨k, g, s, b, ek, eg, es, eb, k1, k2, g2, s2, b2⟩ := h.nums hr
 have hv := h.2.2.1
 have l1 := enc_len 0 k (by omega)
 have l2 := enc_len 0 g (by omega)
 have l3 := enc_len 1 s (by omega)
 have l4 := enc_len 3 b (by omega)
 have l5 : (encT r.Value).length ≤ 1100 := by
  have := enc_len 1 r.Value.length (by omega)
  unfold encT
  rw [List.length_append, ofB_len]; omega
 have wk : wr .i64 r.Kind = (k : Int) := by rw [ek]; exact wr_i (by omega) (by omega)
 have hrec : recB r = enc k ++ (enc g ++ (enc s ++ ((if r.Kind = 1 ∨ r.Kind = 2 then enc b else []) ++ (if r.Kind = 2 ∨ r.Kind = 3 then encT r.Value else [])))) := by
  unfold recB
  rw [ek, eg, es, eb]
  simp only [Int.toNat_natCast]
 rw [m_record_Write, rcheck_eq, if_pos h]
 simp only [Option.bind_some]
 rw [if_neg (by simp), wk, Put_enc k (by omega)]
 simp only [Option.bind_some]
 rw [write1 _ _ (by simp; omega)]
 simp only [Option.bind_some]
 rw [eg, Put_enc g (by omega)]
 simp only [Option.bind_some]
 rw [write1 _ _ (by simp; omega)]
 simp only [Option.bind_some]
 rw [es, Put_enc s (by omega)]
 simp only [Option.bind_some]
 rw [write1 _ _ (by simp; omega)]
 simp only [Option.bind_some]
 rw [has_eq, eb, Put_enc b (by omega), Text_enc _ hv]
 simp only [Option.bind_some]
 rw [hrec]
 rcases (by omega : k = 1 ∨ k = 2 ∨ k = 3) with rfl | rfl | rfl
 ·rw [ek]
  simp
  rw [write1 _ _ (by simp; omega)]
  simp
 ·rw [ek]
  simp
  rw [write1 _ _ (by simp; omega)]
  simp
  rw [write1 _ _ (by simp; omega)]
  simp
 ·rw [ek]
  simp
  rw [write1 _ _ (by simp; omega)]
  simp
def txt (r : TRecord) : List UInt8 := toBytes (recB r)
end Go.Proofs
end
section
namespace Go.Proofs
open Go.Tm
set_option linter.unusedSimpArgs false
theorem image1 (r : TRecord) (h : RecOk r) (hr : InR r) (l : Txts) (hl : l.length + 1 < 1000000) : m_stable_Image_1 r l = some (l ++ [txt r]) := by
 rw [m_stable_Image_1, write_eq r h hr]
 simp only [Option.bind_some]
 rw [if_pos (by simpa using hl)]; rfl
def decs (g : Nat) : Nat → Txts → List TRecord
 | _, [] => []
 | i, v :: r => ⟨3, g, ((i + 1 : Nat) : Int), 0, v⟩ :: decs g (i + 1) r
def allDecs : Nat → List Txts → List TRecord
 | _, [] => []
 | g, y :: r => decs g 0 y ++ allDecs (g + 1) r
def vrecs (v : TSeen) : List TRecord := (if v.Vote.Ballot > 0 then [⟨2, v.Group, v.Slot, v.Vote.Ballot, v.Vote.Value⟩] else []) ++ (if v.Vote.Promised > v.Vote.Ballot then [⟨1, v.Group, v.Slot, v.Vote.Promised, []⟩] else [])
theorem decs_len (g : Nat) : ∀ (y : Txts) (i : Nat), (decs g i y).length = y.length
 | [], _ => rfl
 | v :: r, i => by simp only [decs, List.length_cons, decs_len g r (i + 1)]
def total (L : List Txts) : Nat := (L.map List.length).sum
theorem allDecs_len : ∀ (L : List Txts) (g : Nat), (allDecs g L).length = total L
 | [], _ => rfl
 | y :: r, g => by simp only [allDecs, List.length_append, decs_len, allDecs_len r (g + 1), total, List.map_cons, List.sum_cons]
theorem dec_ok {g i : Nat} {v : List UInt8} (hg : g < 4) (hi : i < 200) (hv : v.length ≤ 1024) : RecOk ⟨3, g, ((i + 1 : Nat) : Int), 0, v⟩ ∧ InR ⟨3, g, ((i + 1 : Nat) : Int), 0, v⟩ :=
 ⟨⟨⟨by dsimp only; omega, by dsimp only; omega⟩, ⟨by dsimp only; omega, by dsimp only; omega⟩, hv, .inr (.inr ⟨rfl, rfl⟩)⟩, by unfold InR; simp⟩
def RngV (v : TSeen) : Prop := (-9223372036854775808 ≤ v.Vote.Promised ∧ v.Vote.Promised ≤ 9223372036854775807) ∧ (-9223372036854775808 ≤ v.Vote.Ballot ∧ v.Vote.Ballot ≤ 9223372036854775807)
theorem bal_pos {v : TSeen} (h : VOk v.Vote) (_ : RngV v) (h0 : v.Vote.Ballot > 0) : BOk v.Vote.Ballot ∧ v.Vote.Ballot ≤ v.Vote.Promised ∧ v.Vote.Value.length ≤ 1024 := by
 have := h.2
 rw [if_neg (by omega)] at this
 exact this
theorem bal_zero {v : TSeen} (h : VOk v.Vote) (hr : RngV v) (h0 : ¬ v.Vote.Ballot > 0) : v.Vote.Ballot = 0 ∧ v.Vote.Value = [] := by
 have := h.2
 by_cases hz : v.Vote.Ballot = 0
 ·rw [if_pos hz] at this; exact ⟨hz, this⟩
 ·rw [if_neg hz] at this
  have := this.1.pos hr.2.1 hr.2.2
  omega
theorem prom_ok {L : List Txts} {v : TSeen} (h : SeenOk L v) (hr : RngV v) : BOk v.Vote.Promised ∧ 8 ≤ v.Vote.Promised := by
 have hb : BOk v.Vote.Promised := h.2.2.2.2.1.resolve_left h.2.2.2.1
 exact ⟨hb, hb.pos hr.1.1 hr.1.2⟩
theorem acc_ok {L : List Txts} {v : TSeen} (hL : L.length ≤ 4) (h : SeenOk L v) (hr : RngV v) (h0 : v.Vote.Ballot > 0) : RecOk ⟨2, v.Group, v.Slot, v.Vote.Ballot, v.Vote.Value⟩ ∧ InR ⟨2, v.Group, v.Slot, v.Vote.Ballot, v.Vote.Value⟩ := by
 obtain ⟨b1, b2, b3⟩ := bal_pos h.2.2.2.2 hr h0
 have h1 := h.1
 have h2 := h.2.1
 have h3 := h.2.2.1
 exact ⟨⟨⟨h1.1, by dsimp only; omega⟩, ⟨by dsimp only; omega, h3⟩, b3, .inr (.inl ⟨rfl, b1⟩)⟩, hr.2⟩
theorem pro_ok {L : List Txts} {v : TSeen} (hL : L.length ≤ 4) (h : SeenOk L v) (hr : RngV v) : RecOk ⟨1, v.Group, v.Slot, v.Vote.Promised, []⟩ ∧ InR ⟨1, v.Group, v.Slot, v.Vote.Promised, []⟩ := by
 obtain ⟨b1, b2⟩ := prom_ok h hr
 have h1 := h.1
 have h2 := h.2.1
 have h3 := h.2.2.1
 exact ⟨⟨⟨h1.1, by dsimp only; omega⟩, ⟨by dsimp only; omega, h3⟩, by simp, .inl ⟨rfl, b1, rfl⟩⟩, hr.1⟩
theorem im_loop2 (a0 : TStable) (g : Nat) (hg : g < 4) : ∀ (y : Txts) (i fu : Nat) (l : Txts), (a0.Logs.getD g default).drop i = y → (a0.Logs.getD g default).length ≤ 200 → (∀ v ∈ y, v.length ≤ 1024) → y.length < fu → l.length + y.length < 900000 →
  m_stable_Image_loop2 a0 (g : Int) fu l (i : Int) = some (l ++ (decs g i y).map txt)
 | _, _, 0, _, _, _, _, h, _ => absurd h (Nat.not_lt_zero _)
 | [], i, fu + 1, l, hd, h2, _, _, _ => by
  have : (a0.Logs.getD g default).length ≤ i := by
   have := congrArg List.length hd
   simp only [List.length_drop, List.length_nil] at this
   omega
  rw [m_stable_Image_loop2]
  simp only [Int.toNat_natCast]
  rw [if_neg (by omega)]
  simp [decs]
 | v :: y, i, fu + 1, l, hd, h2, hv, hf, hl => by
  have hi : i < (a0.Logs.getD g default).length := by
   rcases Nat.lt_or_ge i (a0.Logs.getD g default).length with h | h
   ·exact h
   ·rw [List.drop_of_length_le h] at hd; cases hd
  have hd' := hd
  rw [List.drop_eq_getElem_cons hi] at hd'
  obtain ⟨e1, e2⟩ := List.cons.inj hd'
  have eg : (a0.Logs.getD g default).getD i default = v := by
   rw [List.getD_eq_getElem?_getD, List.getElem?_eq_getElem hi, e1]; rfl
  simp only [List.length_cons] at hf hl
  obtain ⟨k1, k2⟩ := dec_ok (g := g) (i := i) hg (by omega) (hv v (List.mem_cons_self ..))
  have ew : wr .i64 ((i : Int) + 1) = ((i + 1 : Nat) : Int) := by rw [wr_i (by omega) (by omega)]; omega
  rw [m_stable_Image_loop2]
  simp only [Int.toNat_natCast]
  rw [if_pos (by omega), if_pos ⟨by omega, by omega⟩, ew, eg, image1 _ k1 k2 l (by omega)]
  simp only [Option.bind_some]
  rw [im_loop2 a0 g hg y (i + 1) fu _ e2 h2 (fun x hx => hv x (List.mem_cons_of_mem _ hx)) (by omega) (by simp; omega)]
  simp only [decs, List.map_cons, List.append_assoc, List.singleton_append]
theorem im_loop1 (a0 : TStable) (hs : SOk a0) : ∀ (L : List Txts) (g fu : Nat) (l : Txts), a0.Logs.drop g = L → L.length < fu → l.length + 200 * L.length < 800000 →
  m_stable_Image_loop1 a0 fu l (g : Int) = some (l ++ (allDecs g L).map txt)
 | _, _, 0, _, _, h, _ => absurd h (Nat.not_lt_zero _)
 | [], g, fu + 1, l, hd, _, _ => by
  have : a0.Logs.length ≤ g := by
   have := congrArg List.length hd
   simp only [List.length_drop, List.length_nil] at this
   omega
  rw [m_stable_Image_loop1, if_neg (by omega)]
  simp [allDecs]
 | y :: L, g, fu + 1, l, hd, hf, hl => by
  have hg : g < a0.Logs.length := by
   rcases Nat.lt_or_ge g a0.Logs.length with h | h
   ·exact h
   ·rw [List.drop_of_length_le h] at hd; cases hd
  have hd' := hd
  rw [List.drop_eq_getElem_cons hg] at hd'
  obtain ⟨e1, e2⟩ := List.cons.inj hd'
  have eg : a0.Logs.getD g default = y := by
   rw [List.getD_eq_getElem?_getD, List.getElem?_eq_getElem hg, e1]; rfl
  have hn := hs.n.2
  have hy : LogOk y := hs.l y (by rw [← e1]; exact List.getElem_mem hg)
  simp only [List.length_cons] at hf hl
  have ew : wr .i64 ((g : Int) + 1) = ((g + 1 : Nat) : Int) := by rw [wr_i (by omega) (by omega)]; omega
  have hy1 := hy.1
  have i2 := im_loop2 a0 g (by omega) y 0 1000001 l (by rw [eg]; rfl) (by rw [eg]; exact hy.1) hy.2 (by omega) (by omega)
  have z : ((0 : Nat) : Int) = 0 := rfl
  rw [z] at i2
  rw [m_stable_Image_loop1, if_pos (by omega), if_pos ⟨by omega, by omega⟩, i2]
  simp only [Option.bind_some]
  have hdl := decs_len g y 0
  rw [ew, im_loop1 a0 hs L (g + 1) fu _ e2 (by omega) (by simp [hdl]; omega)]
  simp only [allDecs, List.map_append, List.append_assoc]
theorem vrecs_len {L : List Txts} {v : TSeen} (h : SeenOk L v) (hr : RngV v) : 1 ≤ (vrecs v).length ∧ (vrecs v).length ≤ 2 := by
 unfold vrecs
 have hp := (prom_ok h hr).2
 by_cases h0 : v.Vote.Ballot > 0
 ·rw [if_pos h0]
  split <;> simp
 ·have := (bal_zero h.2.2.2.2 hr h0).1
  rw [if_neg h0, if_pos (by omega)]
  simp
theorem im_loop3 (a0 : TStable) (hs : SOk a0) (hr : ∀ v ∈ a0.Votes, RngV v) (hV : a0.Votes.length ≤ 10000) : ∀ (V : List TSeen) (k fu : Nat) (l : Txts), a0.Votes.drop k = V → V.length < fu → l.length + 2 * V.length < 900000 →
  m_stable_Image_loop3 a0 fu l (k : Int) = some (l ++ (V.flatMap vrecs).map txt)
 | _, _, 0, _, _, h, _ => absurd h (Nat.not_lt_zero _)
 | [], k, fu + 1, l, hd, _, _ => by
  have : a0.Votes.length ≤ k := by
   have := congrArg List.length hd
   simp only [List.length_drop, List.length_nil] at this
   omega
  rw [m_stable_Image_loop3, if_neg (by omega)]
  simp
 | v :: V, k, fu + 1, l, hd, hf, hl => by
  have hk : k < a0.Votes.length := by
   rcases Nat.lt_or_ge k a0.Votes.length with h | h
   ·exact h
   ·rw [List.drop_of_length_le h] at hd; cases hd
  have hd' := hd
  rw [List.drop_eq_getElem_cons hk] at hd'
  obtain ⟨e1, e2⟩ := List.cons.inj hd'
  have eg : a0.Votes.getD k default = v := by
   rw [List.getD_eq_getElem?_getD, List.getElem?_eq_getElem hk, e1]; rfl
  have hm : v ∈ a0.Votes := by rw [← e1]; exact List.getElem_mem hk
  have hS := hs.v v hm
  have hR := hr v hm
  simp only [List.length_cons] at hf hl
  have ew : wr .i64 ((k : Int) + 1) = ((k + 1 : Nat) : Int) := by rw [wr_i (by omega) (by omega)]; omega
  rw [m_stable_Image_loop3, if_pos (by omega), if_pos ⟨by omega, by omega⟩]
  simp only [Int.toNat_natCast, eg]
  have hvl := (vrecs_len hS hR).2
  have step : ∀ l8 : Txts, l8 = l ++ (if v.Vote.Ballot > 0 then [(⟨2, v.Group, v.Slot, v.Vote.Ballot, v.Vote.Value⟩ : TRecord)] else []).map txt → (if v.Vote.Promised > v.Vote.Ballot then
    Option.bind (m_stable_Image_1 (⟨1, v.Group, v.Slot, v.Vote.Promised, []⟩ : TRecord) l8) fun v4 => some v4 else some l8) = some (l ++ (vrecs v).map txt) := by
   rintro l8 rfl
   obtain ⟨p1, p2⟩ := pro_ok hs.n.2 hS hR
   unfold vrecs
   by_cases hp : v.Vote.Promised > v.Vote.Ballot
   ·rw [if_pos hp, if_pos hp, image1 _ p1 p2 _ (by rw [List.length_append, List.length_map]; split <;> simp <;> omega)]
    simp only [Option.bind_some, List.map_append, List.append_assoc, List.map_cons, List.map_nil]
   ·rw [if_neg hp, if_neg hp, List.append_nil]
  have first : (Option.bind (α := (List (List UInt8))) (if v.Vote.Ballot > 0 then
    Option.bind (m_stable_Image_1 (⟨2, v.Group, v.Slot, v.Vote.Ballot, v.Vote.Value⟩ : TRecord) l) fun v3 => some v3 else some l) fun l8 =>
    if v.Vote.Promised > v.Vote.Ballot then
    Option.bind (m_stable_Image_1 (⟨1, v.Group, v.Slot, v.Vote.Promised, []⟩ : TRecord) l8) fun v4 => some v4 else some l8) = some (l ++ (vrecs v).map txt) := by
   by_cases h0 : v.Vote.Ballot > 0
   ·obtain ⟨a1, a2⟩ := acc_ok hs.n.2 hS hR h0
    rw [if_pos h0, image1 _ a1 a2 l (by omega)]
    simp only [Option.bind_some]
    exact step _ (by rw [if_pos h0]; rfl)
   ·rw [if_neg h0]
    simp only [Option.bind_some]
    exact step _ (by rw [if_neg h0]; simp)
  refine (congrArg (fun o => Option.bind o _) first).trans ?_
  rw [Option.bind_some, ew, im_loop3 a0 hs hr hV V (k + 1) fu _ e2 (by omega) (by simp; omega)]
  simp only [List.flatMap_cons, List.map_append, List.append_assoc]
def recsOf (s : TStable) : List TRecord := allDecs 0 s.Logs ++ s.Votes.flatMap vrecs
theorem total_le : ∀ (L : List Txts), (∀ l ∈ L, LogOk l) → total L ≤ 200 * L.length
 | [], _ => by simp [total]
 | y :: L, h => by
  have := total_le L fun l hl => h l (List.mem_cons_of_mem _ hl)
  have := (h y (List.mem_cons_self ..)).1
  simp only [total, List.map_cons, List.sum_cons, List.length_cons] at *
  omega
theorem image_eq (s : TStable) (hs : SOk s) (hr : ∀ v ∈ s.Votes, RngV v) (hV : s.Votes.length ≤ 10000) : m_stable_Image s = some ((recsOf s).map txt, 0) := by
 have hn := hs.n
 have ht := total_le s.Logs hs.l
 have hal := allDecs_len s.Logs 0
 have i1 := im_loop1 s hs s.Logs 0 (s.Logs.length + 1) [] rfl (by omega) (by simp; omega)
 have i3 := im_loop3 s hs hr hV s.Votes 0 (s.Votes.length + 1) ([] ++ (allDecs 0 s.Logs).map txt) rfl (by omega) (by simp [hal]; omega)
 have z : ((0 : Nat) : Int) = 0 := rfl
 rw [z] at i1 i3
 rw [m_stable_Image, check_eq, if_pos hs]
 simp only [Option.bind_some]
 rw [if_neg (by simp), i1]
 simp only [Option.bind_some]
 rw [i3]
 simp only [Option.bind_some, List.nil_append, recsOf, List.map_append]
theorem VOk.z : VOk zV := ⟨.inl rfl, by rfl⟩
theorem recs_ok (s : TStable) (hs : SOk s) (hr : ∀ v ∈ s.Votes, RngV v) : ∀ r ∈ recsOf s, RecOk r ∧ InR r := by
 have hd : ∀ (y : Txts) (g i : Nat), g < 4 → i + y.length ≤ 200 → (∀ v ∈ y, v.length ≤ 1024) → ∀ r ∈ decs g i y, RecOk r ∧ InR r := by
  intro y
  induction y with
  | nil => intro g i _ _ _ r h; cases h
  | cons v y ih =>
   intro g i hg hi hv r h
   simp only [List.length_cons] at hi
   rcases List.mem_cons.1 h with rfl | h
   ·exact dec_ok hg (by omega) (hv v (List.mem_cons_self ..))
   ·exact ih g (i + 1) hg (by omega) (fun x hx => hv x (List.mem_cons_of_mem _ hx)) r h
 have ha : ∀ (L : List Txts) (g : Nat), g + L.length ≤ 4 → (∀ l ∈ L, LogOk l) → ∀ r ∈ allDecs g L, RecOk r ∧ InR r := by
  intro L
  induction L with
  | nil => intro g _ _ r h; cases h
  | cons y L ih =>
   intro g hg hl r h
   simp only [List.length_cons] at hg
   have hy := hl y (List.mem_cons_self ..)
   rcases List.mem_append.1 h with h | h
   ·exact hd y g 0 (by omega) (by have := hy.1; omega) hy.2 r h
   ·exact ih (g + 1) (by omega) (fun l hl' => hl l (List.mem_cons_of_mem _ hl')) r h
 intro r hm
 rcases List.mem_append.1 hm with h | h
 ·exact ha s.Logs 0 (by have := hs.n.2; omega) hs.l r h
 ·obtain ⟨v, hv, h⟩ := List.mem_flatMap.1 h
  have hS := hs.v v hv
  have hR := hr v hv
  unfold vrecs at h
  rcases List.mem_append.1 h with h | h
  ·split at h
   ·rename_i h0
    rw [List.mem_singleton] at h
    subst h
    exact acc_ok hs.n.2 hS hR h0
   ·cases h
  ·split at h
   ·rw [List.mem_singleton] at h
    subst h
    exact pro_ok hs.n.2 hS hR
   ·cases h
theorem flat_len {L : List Txts} : ∀ (V : List TSeen), (∀ v ∈ V, SeenOk L v) → (∀ v ∈ V, RngV v) → V.length ≤ (V.flatMap vrecs).length ∧ (V.flatMap vrecs).length ≤ 2 * V.length
 | [], _, _ => by simp
 | v :: V, hs, hr => by
  have h1 := vrecs_len (hs v (List.mem_cons_self ..)) (hr v (List.mem_cons_self ..))
  have h2 := flat_len V (fun x hx => hs x (List.mem_cons_of_mem _ hx)) (fun x hx => hr x (List.mem_cons_of_mem _ hx))
  simp only [List.flatMap_cons, List.length_append, List.length_cons]
  omega
end Go.Proofs
end
section
namespace Go.Proofs
open Go.Tm
set_option linter.unusedSimpArgs false
theorem rin_eq (n : Int) : m_towncrierref01_In n = some (decide (0 ≤ n ∧ n ≤ 1099511627776)) := by
 rw [m_towncrierref01_In]
 congr 1
 rw [Bool.eq_iff_iff]
 simp
theorem pw_succ {i : Nat} (hi : i ≤ 5) : pw (i + 1) = 128 * pw i := by
 rcases (by omega : i = 0 ∨ i = 1 ∨ i = 2 ∨ i = 3 ∨ i = 4 ∨ i = 5) with rfl | rfl | rfl | rfl | rfl | rfl <;> rfl
theorem get2_loop : ∀ (l : List Int) (i acc : Nat), Bytes l → i ≤ 6 → acc < pw i →
  (∃ t, m_num_Get_loop1 l i (acc : Int) = some (.inl t) ∧ m_towncrierref01_Get_loop1 l i (acc : Int) ((pw i : Nat) : Int) = some (.inl t)) ∨
  (m_num_Get_loop1 l i (acc : Int) = some (.inr ()) ∧ (m_towncrierref01_Get_loop1 l i (acc : Int) ((pw i : Nat) : Int) = some (.inl (0, 0, 8)) ∨ m_towncrierref01_Get_loop1 l i (acc : Int) ((pw i : Nat) : Int) = some (.inr ())))
 | [], i, acc, _, _, _ => .inr ⟨by rw [m_num_Get_loop1], .inr (by rw [m_towncrierref01_Get_loop1])⟩
 | y :: l, i, acc, hb, hi, ha => by
  obtain ⟨y1, y2⟩ := hb y (List.mem_cons_self ..)
  obtain ⟨m, rfl⟩ : ∃ m : Nat, y = (m : Int) := ⟨y.toNat, by omega⟩
  rw [m_num_Get_loop1, m_towncrierref01_Get_loop1]
  by_cases h6 : i = 6
  ·rw [if_pos (by omega), if_neg (by omega)]
   exact .inr ⟨rfl, .inr rfl⟩
  ·have hi5 : i ≤ 5 := by omega
   have e7 : (0 : Int) ≤ wr .i64 (7 * (i : Int)) := by rw [wr_i (by omega) (by omega)]; omega
   have hm : m % 128 < 128 := Nat.mod_lt _ (by decide)
   have hp := pw_le hi5
   have hmul : m % 128 * pw i ≤ 127 * 34359738368 := Nat.mul_le_mul (by omega) hp
   have e1 : bitw .or .i64 (acc : Int) (shw true .i64 (wr .i64 (bitw .and .u8 (m : Int) 127)) (wr .i64 (7 * (i : Int)))) = ((acc + m % 128 * pw i : Nat) : Int) := by
    rw [and8 m (by omega), wr_i (n := ((m % 128 : Nat) : Int)) (by omega) (by omega), shl _ i hm hi5, orp acc _ i ha hm hi5]
   have e2 : wr .i64 ((acc : Int) + wr .i64 (wr .i64 ((m : Int).tmod 128) * ((pw i : Nat) : Int))) = ((acc + m % 128 * pw i : Nat) : Int) := by
    rw [Int.tmod_eq_emod_of_nonneg (by omega)]
    have : (m : Int) % 128 = ((m % 128 : Nat) : Int) := by omega
    rw [this, wr_i (n := ((m % 128 : Nat) : Int)) (by omega) (by omega), ← Int.natCast_mul, wr_i (n := ((m % 128 * pw i : Nat) : Int)) (by omega) (by omega), wr_i (by omega) (by omega)]
    omega
   have e3 : wr .i64 (((pw i : Nat) : Int) * 128) = ((pw (i + 1) : Nat) : Int) := by
    rw [pw_succ hi5, wr_i (by omega) (by omega)]
    omega
   rw [if_neg (show ¬ ((i : Int) > 5) by omega), if_pos e7, if_pos (show (i : Int) < 6 by omega), e1, e2, e3]
   by_cases h : m < 128
   ·rw [if_neg (show ¬ ((m : Int) > 127) by omega), if_pos (show (m : Int) < 128 by omega), in_eq, rin_eq]
    by_cases hz : m = 0 ∧ i > 0
    ·rw [if_neg (by omega), if_neg (by omega)]
     simp only [Option.bind_some]
     rw [if_pos (by omega), if_pos (by omega)]
     exact .inr ⟨rfl, .inl rfl⟩
    ·rw [if_pos (by omega), if_pos (by omega)]
     simp only [Option.bind_some]
     by_cases hN : acc + m % 128 * pw i ≤ 1099511627776
     ·rw [decide_eq_true (by omega), if_neg (by simp; omega), if_neg (by simp; omega)]
      exact .inl ⟨_, rfl, rfl⟩
     ·rw [decide_eq_false (by omega), if_pos (.inr (by simp)), if_pos (.inr (by simp))]
      exact .inr ⟨rfl, .inl rfl⟩
   ·rw [if_pos (show (m : Int) > 127 by omega), if_neg (show ¬ ((m : Int) < 128) by omega)]
    have hacc : acc + m % 128 * pw i < pw (i + 1) := by
     rw [pw_succ hi5]
     have : m % 128 * pw i ≤ 127 * pw i := Nat.mul_le_mul (by omega) (Nat.le_refl _)
     omega
    exact get2_loop l (i + 1) _ (fun x hx => hb x (List.mem_cons_of_mem _ hx)) (by omega) hacc
theorem get2 (l : List Int) (hb : Bytes l) : m_towncrierref01_Get l = m_num_Get l := by
 rw [m_towncrierref01_Get, m_num_Get]
 have z : ((0 : Nat) : Int) = 0 := rfl
 have o : ((pw 0 : Nat) : Int) = 1 := rfl
 rcases get2_loop l 0 0 hb (by omega) (by decide) with ⟨t, h1, h2⟩ | ⟨h1, h2 | h2⟩ <;> rw [z] at h1 h2 <;> rw [o] at h2 <;> rw [h1, h2] <;> rfl
theorem getText2 (l : List Int) (hb : Bytes l) : m_towncrierref01_GetText l = m_num_GetText l := by
 rw [m_towncrierref01_GetText, m_num_GetText, get2 l hb]
def gt (l : List Int) : Int × Int × Int := (m_num_Get l).getD (0, 0, 8)
theorem gt_ok (l : List Int) : m_num_Get l = some (gt l) ∧ 0 ≤ (gt l).2.1 ∧ (gt l).2.1 ≤ (l.length : Int) ∧ 0 ≤ (gt l).1 ∧ (gt l).1 ≤ 1099511627776 := by
 obtain ⟨n, k, e, h1, h2, h3, h4⟩ := get_tot l
 have : gt l = (n, (k : Int), e) := by unfold gt; rw [h1]; rfl
 rw [h1, this]
 exact ⟨rfl, by simp only; omega, by simp only; omega, h3, h4⟩
def gd' (l : List Int) : List Int := l.drop (gt l).2.1.toNat
theorem next_gt (l : List Int) (b : Bool) : m_record_Read_1 l b = some ((gt l).1, gd' l, (b || (gt l).2.2 != 0)) := by
 obtain ⟨h1, h2, h3, _⟩ := gt_ok l
 rw [m_record_Read_1, h1]
 simp only [Option.bind_some]
 rw [if_pos ⟨h2, h3⟩]
 rfl
theorem num_gt (l : List Int) (hb : Bytes l) (b : Bool) (h : Int) : m_towncrierref01_Reader_Number ⟨l, b⟩ h = some (if ((gt l).2.2 ≠ 0 ∨ (gt l).1 > h) ∨ b = true then (0, ⟨l, true⟩) else ((gt l).1, ⟨gd' l, b⟩)) := by
 obtain ⟨h1, h2, h3, _⟩ := gt_ok l
 rw [m_towncrierref01_Reader_Number]
 simp only
 rw [get2 l hb, h1]
 simp only [Option.bind_some]
 by_cases hc : ((gt l).2.2 ≠ 0 ∨ (gt l).1 > h) ∨ b = true
 ·rw [if_pos hc, if_pos hc]
 ·rw [if_neg hc, if_neg hc, if_pos ⟨h2, h3⟩]; rfl
def tt (l : List Int) : List UInt8 × Int × Int := (m_num_GetText l).getD ([], 0, 8)
theorem tt_ok (l : List Int) (hl : (l.length : Int) ≤ 9223372036854775807) : m_num_GetText l = some (tt l) ∧ 0 ≤ (tt l).2.1 ∧ (tt l).2.1 ≤ (l.length : Int) := by
 obtain ⟨s, k, e, h1, h2⟩ := text_tot l hl
 have : tt l = (s, (k : Int), e) := by unfold tt; rw [h1]; rfl
 rw [h1, this]
 exact ⟨rfl, by simp only; omega, by simp only; omega⟩
theorem text_gt (l : List Int) (hb : Bytes l) (hl : (l.length : Int) ≤ 9223372036854775807) (b : Bool) (h : Int) : m_towncrierref01_Reader_Text ⟨l, b⟩ h = some (if ((tt l).2.2 ≠ 0 ∨ ((tt l).1.length : Int) > h) ∨ b = true then ([], ⟨l, true⟩) else ((tt l).1, ⟨l.drop (tt l).2.1.toNat, b⟩)) := by
 obtain ⟨h1, h2, h3⟩ := tt_ok l hl
 rw [m_towncrierref01_Reader_Text]
 simp only
 rw [getText2 l hb, h1]
 simp only [Option.bind_some]
 by_cases hc : ((tt l).2.2 ≠ 0 ∨ ((tt l).1.length : Int) > h) ∨ b = true
 ·rw [if_pos hc, if_pos hc]
 ·rw [if_neg hc, if_neg hc, if_pos ⟨h2, h3⟩]
theorem may5 (b : Int) (h1 : -9223372036854775808 ≤ b) (h2 : b ≤ 9223372036854775807) : m_towncrierref05_May b = some (decide (BOk b)) := by
 rw [m_towncrierref05_May]
 congr 1
 rw [Bool.eq_iff_iff]
 simp only [Bool.and_eq_true, decide_eq_true_eq]
 constructor
 ·rintro ⟨⟨a, c⟩, d⟩
  unfold BOk
  rw [Int.tdiv_eq_ediv_of_nonneg (by omega), wr_i (by omega) (by omega)]
  rw [Int.tmod_eq_emod_of_nonneg (by omega)] at d ⊢
  omega
 ·intro h
  exact ⟨⟨h.pos h1 h2, h.le h1 h2⟩, h.2.2⟩
theorem may10 (r : TRecord) (hr : InR r) : m_towncrierref10_May r = some (decide (RecOk r)) := by
 rw [m_towncrierref10_May, may5 _ hr.1 hr.2]
 simp only [Option.bind_some]
 by_cases h1 : (0 ≤ r.Group ∧ r.Group < 4) ∧ (1 ≤ r.Slot ∧ r.Slot ≤ 200)
 ·rw [if_neg (by omega)]
  have h8 : ((r.Value.length : Int) ≤ 1024) ↔ (r.Value.length ≤ 1024) := by omega
  by_cases k1 : r.Kind = 1
  ·rw [if_pos k1]
   congr 1
   rw [Bool.eq_iff_iff]
   unfold RecOk
   simp only [h1, k1, Bool.and_eq_true, decide_eq_true_eq, beq_iff_eq]
   simp
   intro _ b
   rw [b]; simp
  ·rw [if_neg k1]
   by_cases k2 : r.Kind = 2
   ·rw [if_pos k2]
    congr 1
    rw [Bool.eq_iff_iff]
    unfold RecOk
    simp only [h1, k2, Bool.and_eq_true, decide_eq_true_eq]
    simp
    constructor
    ·rintro ⟨a, b⟩; exact ⟨by omega, a⟩
    ·rintro ⟨a, b⟩; exact ⟨b, by omega⟩
   ·rw [if_neg k2]
    by_cases k3 : r.Kind = 3
    ·rw [if_pos k3]
     congr 1
     rw [Bool.eq_iff_iff]
     unfold RecOk
     simp only [h1, k3, Bool.and_eq_true, decide_eq_true_eq, beq_iff_eq]
     simp
     constructor
     ·rintro ⟨a, b⟩; exact ⟨by omega, a⟩
     ·rintro ⟨a, b⟩; exact ⟨b, by omega⟩
    ·rw [if_neg k3, decide_eq_false]
     rintro ⟨_, _, _, ⟨k, _⟩ | ⟨k, _⟩ | ⟨k, _⟩⟩
     ·exact k1 k
     ·exact k2 k
     ·exact k3 k
 ·rw [if_pos (by omega), decide_eq_false]
  rintro ⟨a, b, _⟩
  exact h1 ⟨a, b⟩
def zR : TRecord × Int := (⟨0, 0, 0, 0, []⟩, 8)
def T3 (n1 n2 n3 : Int) (l : List Int) (b : Bool) : Option (TRecord × Int) :=
 Option.bind (m_record_has (wr .u8 (bitw .and .i64 n1 255))) fun v4 =>
 Option.bind (α := (List Int) × Bool × Int) (if v4.1 = true then
 Option.bind (m_record_Read_1 l b) fun v5 =>
 some (v5.2.1, v5.2.2, v5.1)
 else
 some (l, b, 0)) fun (l1, b1, n4) =>
 Option.bind (α := (List Int) × Bool × (List UInt8)) (if (v4.2 = true) ∧ (¬ (b1 = true)) then
 Option.bind (m_num_GetText l1) fun v6 =>
 if (0 ≤ v6.2.1 ∧ v6.2.1 ≤ (l1.length : Int)) then
 some ((l1.drop v6.2.1.toNat), (v6.2.2 != 0), v6.1)
 else none
 else
 some (l1, b1, [])) fun (l2, b2, s1) =>
 Option.bind (if ¬ (((b2 = true) ∨ ((l2.length : Int) > 0)) ∨ (n1 > 255)) then m_record_Check (⟨(wr .u8 (bitw .and .i64 n1 255)), n2, n3, n4, s1⟩ : TRecord) else some default) fun v7 =>
 if (((b2 = true) ∨ ((l2.length : Int) > 0)) ∨ (n1 > 255)) ∨ (¬ (v7 = 0)) then
 some ((⟨0, 0, 0, 0, []⟩ : TRecord), 8)
 else
 some ((⟨(wr .u8 (bitw .and .i64 n1 255)), n2, n3, n4, s1⟩ : TRecord), 0)
def R3 (n1 n2 n3 : Int) (l : List Int) (b : Bool) : Option (TRecord × Int) :=
 Option.bind (α := (List Int) × Bool × Int) (if ¬ ((wr .u8 n1) = 3) then
 Option.bind (m_towncrierref01_Reader_Number ⟨l, b⟩ 8388613) fun v4 =>
 some (v4.2.B, v4.2.Bad, v4.1)
 else
 some (l, b, 0)) fun (l1, b1, n4) =>
 Option.bind (α := (List Int) × Bool × (List UInt8)) (if ¬ ((wr .u8 n1) = 1) then
 Option.bind (m_towncrierref01_Reader_Text (⟨l1, b1⟩ : Ttowncrierref01_Reader) 1024) fun v5 =>
 some (v5.2.B, v5.2.Bad, v5.1)
 else
 some (l1, b1, [])) fun (l2, b2, s1) =>
 Option.bind (m_towncrierref01_Reader_Done (⟨l2, b2⟩ : Ttowncrierref01_Reader)) fun v6 =>
 Option.bind (if ¬ (¬ (v6 = true)) then m_towncrierref10_May (⟨(wr .u8 n1), n2, n3, n4, s1⟩ : TRecord) else some default) fun v7 =>
 if (¬ (v6 = true)) ∨ (¬ (v7 = true)) then
 some ((⟨0, 0, 0, 0, []⟩ : TRecord), 8)
 else
 some ((⟨(wr .u8 n1), n2, n3, n4, s1⟩ : TRecord), 0)
theorem bytes_drop {l : List Int} (h : Bytes l) (k : Nat) : Bytes (l.drop k) := fun x hx => h x (List.mem_of_mem_drop hx)
theorem len_drop {l : List Int} (h : (l.length : Int) ≤ 9223372036854775807) (k : Nat) : ((l.drop k).length : Int) ≤ 9223372036854775807 := by rw [List.length_drop]; omega
theorem T3_eq (n1 n2 n3 : Int) (l : List Int) (b : Bool) (hl : (l.length : Int) ≤ 9223372036854775807) (K : Int) (hK : wr .u8 (bitw .and .i64 n1 255) = K) :
  T3 n1 n2 n3 l b = some (
   let l1 := if K = 1 ∨ K = 2 then gd' l else l
   let b1 := if K = 1 ∨ K = 2 then (b || (gt l).2.2 != 0) else b
   let n4 := if K = 1 ∨ K = 2 then (gt l).1 else 0
   let tx := (K = 2 ∨ K = 3) ∧ b1 = false
   let l2 := if tx then l1.drop (tt l1).2.1.toNat else l1
   let b2 := if tx then (tt l1).2.2 != 0 else b1
   let s1 := if tx then (tt l1).1 else []
   if b2 = false ∧ l2 = [] ∧ n1 ≤ 255 ∧ RecOk ⟨K, n2, n3, n4, s1⟩ then (⟨K, n2, n3, n4, s1⟩, 0) else zR) := by
 unfold T3
 rw [hK, has_eq]
 simp only [Option.bind_some]
 have A : (if ((K == 1) || (K == 2)) = true then Option.bind (m_record_Read_1 l b) fun v5 => some (v5.2.1, v5.2.2, v5.1) else some (l, b, 0)) =
   some ((if K = 1 ∨ K = 2 then gd' l else l), (if K = 1 ∨ K = 2 then (b || (gt l).2.2 != 0) else b), (if K = 1 ∨ K = 2 then (gt l).1 else 0)) := by
  rw [next_gt]
  by_cases h : K = 1 ∨ K = 2
  ·rw [if_pos (by simpa using h), if_pos h, if_pos h, if_pos h]; rfl
  ·rw [if_neg (by simpa using h), if_neg h, if_neg h, if_neg h]
 refine (congrArg (fun o => Option.bind o _) A).trans ?_
 rw [Option.bind_some]
 have hl1 : (((if K = 1 ∨ K = 2 then gd' l else l)).length : Int) ≤ 9223372036854775807 := by
  split
  ·exact len_drop hl _
  ·exact hl
 generalize (if K = 1 ∨ K = 2 then gd' l else l) = l1 at hl1 ⊢
 generalize (if K = 1 ∨ K = 2 then (b || (gt l).2.2 != 0) else b) = b1
 generalize (if K = 1 ∨ K = 2 then (gt l).1 else 0) = n4
 simp only
 obtain ⟨t1, t2, t3⟩ := tt_ok l1 hl1
 have C : (if (((K == 2) || (K == 3)) = true) ∧ (¬ (b1 = true)) then Option.bind (m_num_GetText l1) fun v6 => if (0 ≤ v6.2.1 ∧ v6.2.1 ≤ (l1.length : Int)) then some ((l1.drop v6.2.1.toNat), (v6.2.2 != 0), v6.1) else none else some (l1, b1, [])) =
   some ((if (K = 2 ∨ K = 3) ∧ b1 = false then l1.drop (tt l1).2.1.toNat else l1), (if (K = 2 ∨ K = 3) ∧ b1 = false then (tt l1).2.2 != 0 else b1), (if (K = 2 ∨ K = 3) ∧ b1 = false then (tt l1).1 else [])) := by
  by_cases h : (K = 2 ∨ K = 3) ∧ b1 = false
  ·rw [if_pos (by simpa using h), if_pos h, if_pos h, if_pos h, t1]
   simp only [Option.bind_some]
   rw [if_pos ⟨t2, t3⟩]
  ·rw [if_neg (by simpa using h), if_neg h, if_neg h, if_neg h]
 refine (congrArg (fun o => Option.bind o _) C).trans ?_
 rw [Option.bind_some]
 generalize (if (K = 2 ∨ K = 3) ∧ b1 = false then l1.drop (tt l1).2.1.toNat else l1) = l2
 generalize (if (K = 2 ∨ K = 3) ∧ b1 = false then (tt l1).2.2 != 0 else b1) = b2
 generalize (if (K = 2 ∨ K = 3) ∧ b1 = false then (tt l1).1 else []) = s1
 simp only
 rw [rcheck_eq]
 by_cases h : b2 = false ∧ l2 = [] ∧ n1 ≤ 255
 ·obtain ⟨a, c, d⟩ := h
  subst a; subst c
  have hg : ¬ (((false = true) ∨ ((([] : List Int).length : Int) > 0)) ∨ (n1 > 255)) := by simp; omega
  have tt1 : (false = false) = True := by simp
  rw [if_pos hg]
  simp only [Option.bind_some]
  by_cases hr : RecOk ⟨K, n2, n3, n4, s1⟩
  ·rw [if_pos hr, if_neg (by rintro (k | k); exact hg k; exact k rfl), if_pos (by simp only [true_and, tt1, and_true]; first | exact ⟨d, hr⟩ | exact ⟨trivial, d, hr⟩)]
  ·rw [if_neg hr, if_pos (.inr (by decide)), if_neg (fun h => hr h.2.2.2)]; rfl
 ·have hg : ((b2 = true) ∨ ((l2.length : Int) > 0)) ∨ (n1 > 255) := by
   by_cases a : b2 = true
   ·exact .inl (.inl a)
   ·by_cases c : l2 = []
    ·right
     by_cases d : n1 ≤ 255
     ·exact absurd ⟨by simpa using a, c, d⟩ h
     ·omega
    ·exact .inl (.inr (by have := List.length_pos_iff.2 c; omega))
  rw [if_neg (fun k => k hg)]
  simp only [Option.bind_some]
  rw [if_pos (.inl hg), if_neg (fun k => h ⟨k.1, k.2.1, k.2.2.1⟩)]; rfl
theorem R3_eq (n1 n2 n3 : Int) (l : List Int) (b : Bool) (hb : Bytes l) (hl : (l.length : Int) ≤ 9223372036854775807) (K : Int) (hK : wr .u8 n1 = K) :
  R3 n1 n2 n3 l b = some (
   let q := K ≠ 3
   let w := ((gt l).2.2 ≠ 0 ∨ (gt l).1 > 8388613) ∨ b = true
   let l1 := if q ∧ ¬ w then gd' l else l
   let b1 := if q ∧ w then true else b
   let n4 := if q ∧ ¬ w then (gt l).1 else 0
   let u := ((tt l1).2.2 ≠ 0 ∨ ((tt l1).1.length : Int) > 1024) ∨ b1 = true
   let l2 := if K ≠ 1 ∧ ¬ u then l1.drop (tt l1).2.1.toNat else l1
   let b2 := if K ≠ 1 ∧ u then true else b1
   let s1 := if K ≠ 1 ∧ ¬ u then (tt l1).1 else []
   if b2 = false ∧ l2 = [] ∧ RecOk ⟨K, n2, n3, n4, s1⟩ then (⟨K, n2, n3, n4, s1⟩, 0) else zR) := by
 obtain ⟨_, _, _, g1, g2⟩ := gt_ok l
 unfold R3
 rw [hK]
 have A : (if ¬ (K = 3) then Option.bind (m_towncrierref01_Reader_Number ⟨l, b⟩ 8388613) fun v4 => some (v4.2.B, v4.2.Bad, v4.1) else some (l, b, 0)) =
   some ((if K ≠ 3 ∧ ¬ (((gt l).2.2 ≠ 0 ∨ (gt l).1 > 8388613) ∨ b = true) then gd' l else l), (if K ≠ 3 ∧ (((gt l).2.2 ≠ 0 ∨ (gt l).1 > 8388613) ∨ b = true) then true else b), (if K ≠ 3 ∧ ¬ (((gt l).2.2 ≠ 0 ∨ (gt l).1 > 8388613) ∨ b = true) then (gt l).1 else 0)) := by
  rw [num_gt l hb]
  by_cases h : K = 3
  ·rw [if_neg (fun k => k h), if_neg (fun k => k.1 h), if_neg (fun k => k.1 h), if_neg (fun k => k.1 h)]
  ·rw [if_pos h]
   simp only [Option.bind_some]
   by_cases w : ((gt l).2.2 ≠ 0 ∨ (gt l).1 > 8388613) ∨ b = true
   ·rw [if_pos w, if_neg (fun k => k.2 w), if_pos ⟨h, w⟩, if_neg (fun k => k.2 w)]
   ·rw [if_neg w, if_pos ⟨h, w⟩, if_neg (fun k => w k.2), if_pos ⟨h, w⟩]
 refine (congrArg (fun o => Option.bind o _) A).trans ?_
 rw [Option.bind_some]
 have hl1 : (((if K ≠ 3 ∧ ¬ (((gt l).2.2 ≠ 0 ∨ (gt l).1 > 8388613) ∨ b = true) then gd' l else l)).length : Int) ≤ 9223372036854775807 := by
  split
  ·exact len_drop hl _
  ·exact hl
 have hb1 : Bytes (if K ≠ 3 ∧ ¬ (((gt l).2.2 ≠ 0 ∨ (gt l).1 > 8388613) ∨ b = true) then gd' l else l) := by
  split
  ·exact bytes_drop hb _
  ·exact hb
 have hn4 : 0 ≤ (if K ≠ 3 ∧ ¬ (((gt l).2.2 ≠ 0 ∨ (gt l).1 > 8388613) ∨ b = true) then (gt l).1 else 0) ∧ (if K ≠ 3 ∧ ¬ (((gt l).2.2 ≠ 0 ∨ (gt l).1 > 8388613) ∨ b = true) then (gt l).1 else 0) ≤ 1099511627776 := by
  split
  ·exact ⟨g1, g2⟩
  ·decide
 simp only
 generalize (if K ≠ 3 ∧ ¬ (((gt l).2.2 ≠ 0 ∨ (gt l).1 > 8388613) ∨ b = true) then gd' l else l) = l1 at hl1 hb1 ⊢
 generalize (if K ≠ 3 ∧ (((gt l).2.2 ≠ 0 ∨ (gt l).1 > 8388613) ∨ b = true) then true else b) = b1
 generalize (if K ≠ 3 ∧ ¬ (((gt l).2.2 ≠ 0 ∨ (gt l).1 > 8388613) ∨ b = true) then (gt l).1 else 0) = n4 at hn4 ⊢
 have C : (if ¬ (K = 1) then Option.bind (m_towncrierref01_Reader_Text (⟨l1, b1⟩ : Ttowncrierref01_Reader) 1024) fun v5 => some (v5.2.B, v5.2.Bad, v5.1) else some (l1, b1, [])) =
   some ((if K ≠ 1 ∧ ¬ (((tt l1).2.2 ≠ 0 ∨ ((tt l1).1.length : Int) > 1024) ∨ b1 = true) then l1.drop (tt l1).2.1.toNat else l1), (if K ≠ 1 ∧ (((tt l1).2.2 ≠ 0 ∨ ((tt l1).1.length : Int) > 1024) ∨ b1 = true) then true else b1), (if K ≠ 1 ∧ ¬ (((tt l1).2.2 ≠ 0 ∨ ((tt l1).1.length : Int) > 1024) ∨ b1 = true) then (tt l1).1 else [])) := by
  rw [text_gt l1 hb1 hl1]
  by_cases h : K = 1
  ·rw [if_neg (fun k => k h), if_neg (fun k => k.1 h), if_neg (fun k => k.1 h), if_neg (fun k => k.1 h)]
  ·rw [if_pos h]
   simp only [Option.bind_some]
   by_cases w : ((tt l1).2.2 ≠ 0 ∨ ((tt l1).1.length : Int) > 1024) ∨ b1 = true
   ·rw [if_pos w, if_neg (fun k => k.2 w), if_pos ⟨h, w⟩, if_neg (fun k => k.2 w)]
   ·rw [if_neg w, if_pos ⟨h, w⟩, if_neg (fun k => w k.2), if_pos ⟨h, w⟩]
 refine (congrArg (fun o => Option.bind o _) C).trans ?_
 rw [Option.bind_some]
 generalize (if K ≠ 1 ∧ ¬ (((tt l1).2.2 ≠ 0 ∨ ((tt l1).1.length : Int) > 1024) ∨ b1 = true) then l1.drop (tt l1).2.1.toNat else l1) = l2
 generalize (if K ≠ 1 ∧ (((tt l1).2.2 ≠ 0 ∨ ((tt l1).1.length : Int) > 1024) ∨ b1 = true) then true else b1) = b2
 generalize (if K ≠ 1 ∧ ¬ (((tt l1).2.2 ≠ 0 ∨ ((tt l1).1.length : Int) > 1024) ∨ b1 = true) then (tt l1).1 else []) = s1
 simp only
 rw [m_towncrierref01_Reader_Done, may10 ⟨K, n2, n3, n4, s1⟩ ⟨by simp only; omega, by simp only; omega⟩]
 simp only [Option.bind_some]
 by_cases h : b2 = false ∧ l2 = []
 ·obtain ⟨a, c⟩ := h
  subst a; subst c
  simp only [Bool.not_false, List.length_nil, Int.natCast_zero, BEq.rfl, Bool.and_true, not_true_eq_false, not_false_eq_true, if_true, Option.bind_some, false_or, decide_eq_true_eq, true_and]
  by_cases hr : RecOk ⟨K, n2, n3, n4, s1⟩
  ·rw [if_neg (fun k => k hr), if_pos hr]
  ·rw [if_pos hr, if_neg hr]; rfl
 ·have hg : ¬ ((!b2 && ((l2.length : Int) == 0)) = true) := by
   intro k
   simp only [Bool.and_eq_true, Bool.not_eq_true', beq_iff_eq] at k
   exact h ⟨k.1, List.length_eq_zero_iff.1 (by omega)⟩
  rw [if_neg (fun k => k hg)]
  simp only [Option.bind_some]
  rw [if_pos (.inl hg), if_neg (fun k => h ⟨k.1, k.2.1⟩)]; rfl
end Go.Proofs
end
section
namespace Go.Proofs
open Go.Tm
set_option linter.unusedSimpArgs false
theorem T3_bad (n1 n2 n3 : Int) (l : List Int) (hl : (l.length : Int) ≤ 9223372036854775807) : T3 n1 n2 n3 l true = some zR := by
 rw [T3_eq n1 n2 n3 l true hl _ rfl]
 simp
theorem T3_nok (n1 n2 n3 : Int) (l : List Int) (b : Bool) (hl : (l.length : Int) ≤ 9223372036854775807) (h : n1 > 255 ∨ ∀ bal v, ¬ RecOk ⟨wr .u8 (bitw .and .i64 n1 255), n2, n3, bal, v⟩) : T3 n1 n2 n3 l b = some zR := by
 rw [T3_eq n1 n2 n3 l b hl _ rfl]
 simp only
 rw [if_neg]
 rintro ⟨_, _, k1, k2⟩
 rcases h with h | h
 ·omega
 ·exact h _ _ k2
theorem R3_bad (n1 n2 n3 : Int) (l : List Int) (hb : Bytes l) (hl : (l.length : Int) ≤ 9223372036854775807) : R3 n1 n2 n3 l true = some zR := by
 rw [R3_eq n1 n2 n3 l true hb hl _ rfl]
 simp
theorem num_bad (l : List Int) (hb : Bytes l) (h : Int) : m_towncrierref01_Reader_Number ⟨l, true⟩ h = some (0, ⟨l, true⟩) := by
 rw [num_gt l hb, if_pos (.inr rfl)]
theorem T3_R3 (n1 n2 n3 : Int) (l : List Int) (hb : Bytes l) (hl : (l.length : Int) ≤ 9223372036854775807) (h0 : 0 ≤ n1) (h3 : n1 ≤ 3) : R3 n1 n2 n3 l false = T3 n1 n2 n3 l false := by
 obtain ⟨m, rfl⟩ : ∃ m : Nat, n1 = (m : Int) := ⟨n1.toNat, by omega⟩
 have k1 : wr .u8 (bitw .and .i64 (m : Int) 255) = (m : Int) := by rw [and255 m (by omega), Nat.mod_eq_of_lt (by omega), wr8 (by omega)]
 have k2 : wr .u8 (m : Int) = (m : Int) := wr8 (by omega)
 obtain ⟨_, _, _, g1, g2⟩ := gt_ok l
 rw [T3_eq _ n2 n3 l false hl _ k1, R3_eq _ n2 n3 l false hb hl _ k2]
 have hbal : ∀ (K : Int) (v : List UInt8), K = 1 ∨ K = 2 → (gt l).1 > 8388613 → ¬ RecOk ⟨K, n2, n3, (gt l).1, v⟩ := by
  rintro K v hK hgt ⟨_, _, _, ⟨_, b, _⟩ | ⟨_, b⟩ | ⟨k, _⟩⟩
  ·have := b.le (by simp only; omega) (by simp only; omega); simp only at this; omega
  ·have := b.le (by simp only; omega) (by simp only; omega); simp only at this; omega
  ·simp only at k; omega
 have hlen : ∀ (K bal : Int) (v : List UInt8), (v.length : Int) > 1024 → ¬ RecOk ⟨K, n2, n3, bal, v⟩ := by
  rintro K bal v hv ⟨_, _, k, _⟩
  simp only at k
  omega
 rcases (by omega : m = 0 ∨ m = 1 ∨ m = 2 ∨ m = 3) with rfl | rfl | rfl | rfl
 ·have hn : ∀ bal v, ¬ RecOk ⟨((0 : Nat) : Int), n2, n3, bal, v⟩ := by
   rintro bal v ⟨_, _, _, ⟨k, _⟩ | ⟨k, _⟩ | ⟨k, _⟩⟩ <;> simp at k
  simp only
  rw [if_neg (fun h => hn _ _ h.2.2), if_neg (fun h => hn _ _ h.2.2.2)]
 ·have e : ((1 : Nat) : Int) = 1 := rfl
  rw [e]
  by_cases e4 : (gt l).2.2 = 0
  ·by_cases hl4 : (gt l).1 > 8388613
   ·have := hbal 1 [] (.inl rfl) hl4
    simp [e4, hl4, this]
   ·simp [e4, hl4]
  ·simp [e4]
 ·have e : ((2 : Nat) : Int) = 2 := rfl
  rw [e]
  by_cases e4 : (gt l).2.2 = 0
  ·by_cases hl4 : (gt l).1 > 8388613
   ·have := fun v => hbal 2 v (.inr rfl) hl4
    simp [e4, hl4, this]
   ·by_cases te : (tt (gd' l)).2.2 = 0
    ·by_cases tl : ((tt (gd' l)).1.length : Int) > 1024
     ·have := hlen 2 (gt l).1 _ tl
      simp [e4, hl4, te, tl, this]
     ·simp [e4, hl4, te, tl]
    ·simp [e4, hl4, te]
  ·simp [e4]
 ·have e : ((3 : Nat) : Int) = 3 := rfl
  rw [e]
  by_cases te : (tt l).2.2 = 0
  ·by_cases tl : ((tt l).1.length : Int) > 1024
   ·have := hlen 3 0 _ tl
    simp [te, tl, this]
   ·simp [te, tl]
  ·simp [te]
theorem rread_eq (t : List UInt8) (ht : (t.length : Int) ≤ 9223372036854775807) : m_towncrierref10_Read t = m_record_Read t := by
 have hB := ofB_bytes t
 have hL : ((ofBytes t).length : Int) ≤ 9223372036854775807 := by rw [ofB_len]; exact ht
 have hrec : m_record_Read t = T3 (gt (ofBytes t)).1 (gt (gd' (ofBytes t))).1 (gt (gd' (gd' (ofBytes t)))).1 (gd' (gd' (gd' (ofBytes t)))) (((false || (gt (ofBytes t)).2.2 != 0) || (gt (gd' (ofBytes t))).2.2 != 0) || (gt (gd' (gd' (ofBytes t)))).2.2 != 0) := by
  rw [m_record_Read, next_gt]
  simp only [Option.bind_some]
  rw [next_gt]
  simp only [Option.bind_some]
  rw [next_gt]
  rfl
 have href : ∀ v1 v2 v3, m_towncrierref01_Reader_Number ⟨ofBytes t, false⟩ 3 = some v1 → m_towncrierref01_Reader_Number v1.2 3 = some v2 → m_towncrierref01_Reader_Number v2.2 200 = some v3 → m_towncrierref10_Read t = R3 v1.1 v2.1 v3.1 v3.2.B v3.2.Bad := by
  intro v1 v2 v3 h1 h2 h3
  rw [m_towncrierref10_Read, h1]
  simp only [Option.bind_some]
  rw [h2]
  simp only [Option.bind_some]
  rw [h3]
  rfl
 generalize ofBytes t = B at *
 obtain ⟨_, _, _, g1, g2⟩ := gt_ok B
 have hB1 : Bytes (gd' B) := bytes_drop hB _
 have hL1 : ((gd' B).length : Int) ≤ 9223372036854775807 := len_drop hL _
 have hB2 : Bytes (gd' (gd' B)) := bytes_drop hB1 _
 have hL2 : ((gd' (gd' B)).length : Int) ≤ 9223372036854775807 := len_drop hL1 _
 have hB3 : Bytes (gd' (gd' (gd' B))) := bytes_drop hB2 _
 have hL3 : ((gd' (gd' (gd' B))).length : Int) ≤ 9223372036854775807 := len_drop hL2 _
 rw [hrec]
 obtain ⟨m, hm⟩ : ∃ m : Nat, (gt B).1 = (m : Int) := ⟨(gt B).1.toNat, by omega⟩
 have hK : ¬ m > 255 → wr .u8 (bitw .and .i64 (gt B).1 255) = (m : Int) := fun h => by rw [hm, and255 m (by omega), Nat.mod_eq_of_lt (by omega), wr8 (by omega)]
 by_cases c1 : (gt B).2.2 ≠ 0 ∨ (gt B).1 > 3
 ·have n1 : m_towncrierref01_Reader_Number ⟨B, false⟩ 3 = some (0, ⟨B, true⟩) := by rw [num_gt B hB, if_pos (.inl c1)]
  rw [href _ _ _ n1 (num_bad B hB 3) (num_bad B hB 200), R3_bad _ _ _ _ hB hL]
  symm
  rcases c1 with c1 | c1
  ·have : (((false || (gt B).2.2 != 0) || (gt (gd' B)).2.2 != 0) || (gt (gd' (gd' B))).2.2 != 0) = true := by simp [c1]
   rw [this]
   exact T3_bad _ _ _ _ hL3
  ·refine T3_nok _ _ _ _ _ hL3 ?_
   by_cases h : m > 255
   ·left; omega
   ·right
    rw [hK h]
    rintro bal v ⟨_, _, _, ⟨k, _⟩ | ⟨k, _⟩ | ⟨k, _⟩⟩ <;> simp only at k <;> omega
 have n1 : m_towncrierref01_Reader_Number ⟨B, false⟩ 3 = some ((gt B).1, ⟨gd' B, false⟩) := by rw [num_gt B hB, if_neg (by simp; exact ⟨by simpa using fun h => c1 (.inl h), by omega⟩)]
 have e1 : (gt B).2.2 = 0 := Classical.byContradiction fun h => c1 (.inl h)
 have l1 : (gt B).1 ≤ 3 := by omega
 by_cases c2 : (gt (gd' B)).2.2 ≠ 0 ∨ (gt (gd' B)).1 > 3
 ·have n2 : m_towncrierref01_Reader_Number ⟨gd' B, false⟩ 3 = some (0, ⟨gd' B, true⟩) := by rw [num_gt _ hB1, if_pos (.inl c2)]
  rw [href _ _ _ n1 n2 (num_bad _ hB1 200), R3_bad _ _ _ _ hB1 hL1]
  symm
  rcases c2 with c2 | c2
  ·have : (((false || (gt B).2.2 != 0) || (gt (gd' B)).2.2 != 0) || (gt (gd' (gd' B))).2.2 != 0) = true := by simp [c2]
   rw [this]
   exact T3_bad _ _ _ _ hL3
  ·refine T3_nok _ _ _ _ _ hL3 (.inr ?_)
   rintro bal v ⟨⟨_, k⟩, _⟩
   simp only at k
   omega
 have n2 : m_towncrierref01_Reader_Number ⟨gd' B, false⟩ 3 = some ((gt (gd' B)).1, ⟨gd' (gd' B), false⟩) := by rw [num_gt _ hB1, if_neg (by simp; exact ⟨by simpa using fun h => c2 (.inl h), by omega⟩)]
 have e2 : (gt (gd' B)).2.2 = 0 := Classical.byContradiction fun h => c2 (.inl h)
 by_cases c3 : (gt (gd' (gd' B))).2.2 ≠ 0 ∨ (gt (gd' (gd' B))).1 > 200
 ·have n3 : m_towncrierref01_Reader_Number ⟨gd' (gd' B), false⟩ 200 = some (0, ⟨gd' (gd' B), true⟩) := by rw [num_gt _ hB2, if_pos (.inl c3)]
  rw [href _ _ _ n1 n2 n3, R3_bad _ _ _ _ hB2 hL2]
  symm
  rcases c3 with c3 | c3
  ·have : (((false || (gt B).2.2 != 0) || (gt (gd' B)).2.2 != 0) || (gt (gd' (gd' B))).2.2 != 0) = true := by simp [c3]
   rw [this]
   exact T3_bad _ _ _ _ hL3
  ·refine T3_nok _ _ _ _ _ hL3 (.inr ?_)
   rintro bal v ⟨_, ⟨_, k⟩, _⟩
   simp only at k
   omega
 have n3 : m_towncrierref01_Reader_Number ⟨gd' (gd' B), false⟩ 200 = some ((gt (gd' (gd' B))).1, ⟨gd' (gd' (gd' B)), false⟩) := by rw [num_gt _ hB2, if_neg (by simp; exact ⟨by simpa using fun h => c3 (.inl h), by omega⟩)]
 have e3 : (gt (gd' (gd' B))).2.2 = 0 := Classical.byContradiction fun h => c3 (.inl h)
 have : (((false || (gt B).2.2 != 0) || (gt (gd' B)).2.2 != 0) || (gt (gd' (gd' B))).2.2 != 0) = false := by simp [e1, e2, e3]
 rw [this, href _ _ _ n1 n2 n3]
 exact T3_R3 _ _ _ _ hB3 hL3 g1 l1
end Go.Proofs
end
section
namespace Go.Proofs
open Go.Tm
set_option linter.unusedVariables false
end Go.Proofs
end
section
namespace Go.Proofs
open Go.Tm
set_option linter.unusedSimpArgs false
theorem rng_wf {s : TStable} (hw : wf s.d) : ∀ v ∈ s.Votes, RngV v := by
 simp only [TStable.d, wf, wfL, wfL_iff, List.mem_map] at hw
 intro v hv
 have := hw.2.1.2 (by decide) v.d ⟨v, hv, rfl⟩
 simp only [TSeen.d, wf, wfL] at this
 exact ⟨this.2.2.1, this.2.2.2.1⟩
end Go.Proofs
end
section
namespace Go.Proofs
open Go.Tm
set_option linter.unusedSimpArgs false
def RngT (v : TVote) : Prop := (-9223372036854775808 ≤ v.Promised ∧ v.Promised ≤ 9223372036854775807) ∧ (-9223372036854775808 ≤ v.Ballot ∧ v.Ballot ≤ 9223372036854775807)
theorem may7 (v : TVote) (h : RngT v) : m_towncrierref07_May v = some (decide (VOk v)) := by
 rw [m_towncrierref07_May, may5 _ h.1.1 h.1.2, may5 _ h.2.1 h.2.2]
 unfold VOk
 have h8 : ((v.Value.length : Int) ≤ 1024) = (v.Value.length ≤ 1024) := propext (by omega)
 simp only [h8]
 by_cases h1 : v.Promised = 0 <;> by_cases h2 : v.Ballot = 0 <;> by_cases h3 : BOk v.Promised <;> by_cases h4 : BOk v.Ballot <;> by_cases h5 : v.Value = [] <;> by_cases h6 : v.Ballot ≤ v.Promised <;> by_cases h7 : v.Value.length ≤ 1024 <;> simp_all
theorem rasked (v : TVote) (b : Int) (h : RngT v) (h1 : -9223372036854775808 ≤ b) (h2 : b ≤ 9223372036854775807) : m_towncrierref07_asked v b = some (if VOk v then if BOk b then 0 else 50 else 8) := by
 rw [m_towncrierref07_asked, may7 v h, may5 b h1 h2]
 simp only [Option.bind_some]
 by_cases k1 : VOk v <;> by_cases k2 : BOk b <;> simp [k1, k2]
theorem rprepare (v : TVote) (b : Int) (h : RngT v) (h1 : -9223372036854775808 ≤ b) (h2 : b ≤ 9223372036854775807) : m_towncrierref07_Prepare v b = some (if askE v b [] = 0 then ⟨b, v.Ballot, v.Value⟩ else zV, askE v b []) := by
 rw [m_towncrierref07_Prepare, rasked v b h h1 h2]
 simp only [Option.bind_some]
 unfold askE zV
 by_cases k1 : VOk v <;> by_cases k2 : BOk b <;> by_cases k3 : v.Promised ≤ b <;> simp [k1, k2, k3] <;> omega
theorem raccept (v : TVote) (b : Int) (t : List UInt8) (h : RngT v) (h1 : -9223372036854775808 ≤ b) (h2 : b ≤ 9223372036854775807) : m_towncrierref07_Accept v b t = some (if askE v b t = 0 then ⟨b, b, t⟩ else zV, askE v b t) := by
 rw [m_towncrierref07_Accept, rasked v b h h1 h2]
 simp only [Option.bind_some]
 unfold askE zV
 by_cases k1 : VOk v
 ·by_cases k2 : BOk b
  ·by_cases k4 : t.length ≤ 1024
   ·by_cases k3 : v.Promised ≤ b
    ·simp [k1, k2, k3, k4]; rw [if_neg (by omega), if_neg (by omega)]
    ·simp [k1, k2, k3, k4]; rw [if_neg (by omega), if_pos (by omega)]
   ·simp [k1, k2, k4]; omega
  ·simp [k1, k2]
 ·simp [k1]
theorem rahead (a b : TSeen) : m_towncrierref11_ahead a b = some (decide (ltP a b)) := by
 rw [m_towncrierref11_ahead]
 congr 1
 rw [Bool.eq_iff_iff]
 simp only [Bool.or_eq_true, Bool.and_eq_true, decide_eq_true_eq, beq_iff_eq]
 exact Iff.rfl
theorem rck2 (a0 : TStable) (hr : ∀ v ∈ a0.Votes, RngV v) : ∀ (l : List TSeen) (n : Nat), a0.Votes.drop n = l → m_towncrierref11_May_loop2 a0 l n = some (if Good2 a0.Logs (if n = 0 then none else a0.Votes[n - 1]?) l then .inr () else .inl false) := by
 intro l
 induction l with
 | nil =>
  intro n _
  have : ∀ p, Good2 a0.Logs p [] := fun p => by cases p <;> trivial
  rw [m_towncrierref11_May_loop2, if_pos (this _)]
 | cons y l ih =>
  intro n hd
  have hn : n < a0.Votes.length := by
   rcases Nat.lt_or_ge n a0.Votes.length with h | h
   ·exact h
   ·rw [List.drop_of_length_le h] at hd; cases hd
  have hd' := hd
  rw [List.drop_eq_getElem_cons hn] at hd'
  obtain ⟨hy, hrr⟩ := List.cons.inj hd'
  have hR : RngT y.Vote := hr y (by rw [← hy]; exact List.getElem_mem hn)
  have ih := ih (n + 1) hrr
  rw [if_neg (c := n + 1 = 0) (Nat.succ_ne_zero n), show n + 1 - 1 = n from rfl, List.getElem?_eq_getElem hn, hy] at ih
  have hprev : n ≠ 0 → a0.Votes[n - 1]? = some (a0.Votes.getD (n - 1) default) := fun h => by
   rw [List.getD_eq_getElem?_getD, List.getElem?_eq_getElem (by omega)]; rfl
  have hG : Good2 a0.Logs (if n = 0 then none else a0.Votes[n - 1]?) (y :: l) ↔ SeenOk a0.Logs y ∧ (n ≠ 0 → ltP (a0.Votes.getD (n - 1) default) y) ∧ Good2 a0.Logs (some y) l := by
   by_cases h0 : n = 0
   ·rw [if_pos h0, Good2]; exact ⟨fun h => ⟨h.1, fun k => absurd h0 k, h.2⟩, fun h => ⟨h.1, h.2.2⟩⟩
   ·rw [if_neg h0, hprev h0, Good2]; exact ⟨fun h => ⟨h.1, fun _ => h.2.1, h.2.2⟩, fun h => ⟨h.1, h.2.1 h0, h.2.2⟩⟩
  rw [m_towncrierref11_May_loop2, ih, may7 _ hR, rahead, if_pos (by omega)]
  by_cases h1 : 0 ≤ y.Group ∧ y.Group < (a0.Logs.length : Int)
  ·by_cases h2 : ((a0.Logs.getD y.Group.toNat default).length : Int) < y.Slot
   ·by_cases h3 : y.Slot ≤ 200
    ·rw [if_pos (by omega)]
     simp only [Option.bind_some]
     by_cases h5 : VOk y.Vote
     ·by_cases h4 : y.Vote.Promised = 0
      ·have hN : ¬ Good2 a0.Logs (if n = 0 then none else a0.Votes[n - 1]?) (y :: l) := by rw [hG]; rintro ⟨k, _⟩; exact k.2.2.2.1 h4
       rw [if_neg (by simp [h4])]
       simp only [Option.bind_some]
       refine (if_pos (by simp [h4])).trans ?_
       rw [if_neg hN]
      ·have hS : SeenOk a0.Logs y := ⟨h1, h2, h3, h4, h5⟩
       rw [decide_eq_true h5]
       by_cases h0 : n = 0
       ·rw [if_neg (by omega)]
        simp only [Option.bind_some]
        refine (if_neg (by simp only [h0, not_true_eq_false, or_false]; omega)).trans ?_
        congr 1
        have : Good2 a0.Logs (if n = 0 then none else a0.Votes[n - 1]?) (y :: l) ↔ Good2 a0.Logs (some y) l := by rw [hG]; exact ⟨fun h => h.2.2, fun h => ⟨hS, fun k => absurd h0 k, h⟩⟩
        simp only [this]
       ·have hcond : (¬ ((((((y.Group < 0) ∨ (y.Group ≥ (a0.Logs.length : Int))) ∨ (y.Slot > 200)) ∨ (y.Slot ≤ ((a0.Logs.getD (y.Group).toNat default).length : Int))) ∨ (¬ (true = true))) ∨ (y.Vote.Promised = 0))) ∧ ((n : Int) > 0) := ⟨by simp only [not_true_eq_false, or_false]; omega, by omega⟩
        rw [if_pos hcond]
        simp only [Option.bind_some]
        by_cases h6 : ltP (a0.Votes.getD (n - 1) default) y
        ·refine (if_neg (by simp only [not_true_eq_false, or_false, h6, decide_true, and_false]; omega)).trans ?_
         congr 1
         have : Good2 a0.Logs (if n = 0 then none else a0.Votes[n - 1]?) (y :: l) ↔ Good2 a0.Logs (some y) l := by rw [hG]; exact ⟨fun h => h.2.2, fun h => ⟨hS, fun k => h6, h⟩⟩
         simp only [this]
        ·refine (if_pos (.inr ⟨by omega, by rw [decide_eq_false h6]; decide⟩)).trans ?_
         rw [if_neg (by rw [hG]; rintro ⟨_, k, _⟩; exact h6 (k h0))]
     ·have hN : ¬ Good2 a0.Logs (if n = 0 then none else a0.Votes[n - 1]?) (y :: l) := by rw [hG]; rintro ⟨k, _⟩; exact h5 k.2.2.2.2
      rw [decide_eq_false h5, if_neg (by simp)]
      simp only [Option.bind_some]
      refine (if_pos (by simp)).trans ?_
      rw [if_neg hN]
    ·have hN : ¬ Good2 a0.Logs (if n = 0 then none else a0.Votes[n - 1]?) (y :: l) := by rw [hG]; rintro ⟨k, _⟩; exact h3 k.2.2.1
     rw [if_neg (by omega), Option.bind_some, if_neg (by omega), Option.bind_some, if_pos (by omega), if_neg hN]
   ·have hN : ¬ Good2 a0.Logs (if n = 0 then none else a0.Votes[n - 1]?) (y :: l) := by rw [hG]; rintro ⟨k, _⟩; exact h2 k.2.1
    rw [if_neg (by omega), Option.bind_some, if_neg (by omega), Option.bind_some, if_pos (by omega), if_neg hN]
  ·have hN : ¬ Good2 a0.Logs (if n = 0 then none else a0.Votes[n - 1]?) (y :: l) := by rw [hG]; rintro ⟨k, _⟩; exact h1 k.1
   rw [if_neg (by omega), Option.bind_some, if_neg (by omega), Option.bind_some, if_pos (by omega), if_neg hN]
theorem rmay_eq (s : TStable) (hr : ∀ v ∈ s.Votes, RngV v) : m_towncrierref11_May s = some (decide (SOk s)) := by
 rw [m_towncrierref11_May]
 by_cases h1 : 1 ≤ s.Logs.length ∧ s.Logs.length ≤ 4
 ·rw [if_neg (by omega), mk1]
  by_cases h2 : ∀ x ∈ s.Logs, LogOk x
  ·rw [if_pos h2]
   simp only [Option.bind_some]
   rw [rck2 s hr s.Votes 0 rfl, if_pos rfl]
   have e : Good2 s.Logs none s.Votes ↔ SOk s := by
    rw [good2_iff]
    exact ⟨fun h => ⟨h1, h2, h.1, h.2.1⟩, fun h => ⟨h.v, h.p, fun q hq => by cases hq⟩⟩
   by_cases h3 : SOk s
   ·rw [if_pos (e.2 h3), decide_eq_true h3]; rfl
   ·rw [if_neg (fun k => h3 (e.1 k)), decide_eq_false h3]; rfl
  ·rw [if_neg h2, decide_eq_false fun h => h2 h.l]; rfl
 ·rw [if_pos (by omega), decide_eq_false fun h => h1 h.n]
theorem rvote_loop (g k : Int) : ∀ l : List TSeen, m_towncrierref11_Vote_loop1 g k l = some (match l.find? fun y => decide (y.Group = g ∧ y.Slot = k) with | some y => .inl y.Vote | none => .inr ())
 | [] => by rw [m_towncrierref11_Vote_loop1]; rfl
 | y :: l => by
  rw [m_towncrierref11_Vote_loop1]
  by_cases h : y.Group = g ∧ y.Slot = k
  ·rw [if_pos h, List.find?_cons_of_pos (by simpa using h)]
  ·rw [if_neg h, List.find?_cons_of_neg (by simpa using h), rvote_loop g k l]
theorem rvote (l : List TSeen) (g k : Int) : m_towncrierref11_Vote l g k = some (voteAt l g k) := by
 rw [m_towncrierref11_Vote, rvote_loop]
 unfold voteAt
 cases l.find? fun y => decide (y.Group = g ∧ y.Slot = k) <;> rfl
theorem rwith1 (x : TSeen) : ∀ (l acc : List TSeen), acc.length + l.length < 900000 → m_towncrierref11_With_loop1 x l acc = some (acc ++ bef x l)
 | [], acc, _ => by rw [m_towncrierref11_With_loop1_n]; simp [bef]
 | y :: l, acc, h => by
  simp only [List.length_cons] at h
  rw [m_towncrierref11_With_loop1_c, rahead]
  simp only [Option.bind_some]
  by_cases k : ltP y x
  ·rw [if_pos (by simpa using k), if_pos (by simp; omega)]
   simp only [Option.bind_some]
   rw [rwith1 x l _ (by simp; omega)]
   simp [bef, k]
  ·rw [if_neg (by simpa using k)]
   simp only [Option.bind_some]
   rw [rwith1 x l _ (by omega)]
   simp [bef, k]
theorem rwith2 (x : TSeen) : ∀ (l acc : List TSeen), acc.length + l.length < 900000 → m_towncrierref11_With_loop2 x l acc = some (acc ++ aft x l)
 | [], acc, _ => by rw [m_towncrierref11_With_loop2_n]; simp [aft]
 | y :: l, acc, h => by
  simp only [List.length_cons] at h
  rw [m_towncrierref11_With_loop2_c, rahead]
  simp only [Option.bind_some]
  by_cases k : ltP x y
  ·rw [if_pos (by simpa using k), if_pos (by simp; omega)]
   simp only [Option.bind_some]
   rw [rwith2 x l _ (by simp; omega)]
   simp [aft, k]
  ·rw [if_neg (by simpa using k)]
   simp only [Option.bind_some]
   rw [rwith2 x l _ (by omega)]
   simp [aft, k]
theorem rwith (l : List TSeen) (x : TSeen) (h : l.length < 400000) : m_towncrierref11_With l x = some (withV l x) := by
 have hb := bef_len x l
 rw [m_towncrierref11_With, rwith1 x l [] (by simp; omega)]
 simp only [Option.bind_some, List.nil_append]
 have hz : (x.Vote.Promised = 0 ∧ x.Vote.Ballot = 0 ∧ x.Vote.Value = []) ↔ x.Vote = zV := by
  obtain ⟨g, s, a, b, c⟩ := x
  simp [zV]
 unfold withV
 by_cases k : x.Vote = zV
 ·rw [if_neg (fun n => n (hz.2 k)), if_pos k]
  simp only [Option.bind_some]
  rw [rwith2 x l _ (by omega)]
  rfl
 ·rw [if_pos (fun n => k (hz.1 n)), if_neg k, if_pos (by simp; omega)]
  simp only [Option.bind_some]
  rw [rwith2 x l _ (by simp; omega)]
  simp
theorem rtwin_loop : ∀ (l acc : List Txts), (∀ x ∈ l, x.length ≤ 100000) → acc.length + l.length < 1000000 → m_towncrierref11_Twin_loop1 l acc = some (acc ++ l)
 | [], acc, _, _ => by rw [m_towncrierref11_Twin_loop1_n, List.append_nil]
 | y :: l, acc, h, h2 => by
  have hy := h y (List.mem_cons_self ..)
  simp only [List.length_cons] at h2
  rw [m_towncrierref11_Twin_loop1_c, if_pos (by omega), if_pos (by simp; omega), rtwin_loop l _ (fun x hx => h x (List.mem_cons_of_mem _ hx)) (by simp; omega), List.append_assoc]
  rfl
theorem rtwin (s : TStable) (h1 : ∀ x ∈ s.Logs, x.length ≤ 100000) (h2 : s.Logs.length ≤ 10000) (h3 : s.Votes.length < 900000) : m_towncrierref11_Twin s = some s := by
 rw [m_towncrierref11_Twin, if_pos (by omega), rtwin_loop s.Logs [] h1 (by simp; omega)]
 rfl
theorem RngV.at {s : TStable} (h : ∀ v ∈ s.Votes, RngV v) (g k : Int) : RngT (voteAt s.Votes g k) := by
 unfold voteAt
 cases hf : s.Votes.find? fun y => decide (y.Group = g ∧ y.Slot = k) with
 | none => exact ⟨by decide, by decide⟩
 | some y => exact h y (List.mem_of_find?_eq_some hf)
theorem rapply (s : TStable) (r : TRecord) (hs : SOk s) (hr : RecOk r) (hv : ∀ v ∈ s.Votes, RngV v) (hR : InR r) (hl : s.Votes.length < 400000) : m_towncrierref11_Apply s r = some (if putE s r = 0 then (putS s r, 0) else (eStb, putE s r)) := by
 obtain ⟨hg, hsl, hvl, hk⟩ := id hr
 rw [m_towncrierref11_Apply, rmay_eq s hv, may10 r hR]
 simp only [Option.bind_some]
 rw [decide_eq_true hs, if_pos (by simp)]
 simp only [Option.bind_some]
 rw [decide_eq_true hr, if_neg (by simp)]
 by_cases h1 : r.Group ≥ (s.Logs.length : Int)
 ·have e : putE s r = 6 := by unfold putE; rw [if_pos h1]
  rw [if_pos h1, e]; rfl
 have hlog := hs.log hg.1 (by omega)
 have hll := hlog.1
 have ew : wr .i64 (((s.Logs.getD r.Group.toNat default).length : Int) + 1) = ((logAt s r.Group).length : Int) + 1 := by
  rw [wr_i (by omega) (by unfold logAt at hll; omega)]; rfl
 rw [if_neg h1, if_pos ⟨hg.1, by omega⟩, ew]
 by_cases h2 : r.Slot ≤ ((logAt s r.Group).length : Int) ∨ (r.Kind = 3 ∧ r.Slot ≠ ((logAt s r.Group).length : Int) + 1)
 ·have e : putE s r = 8 := by unfold putE; rw [if_neg h1, if_pos h2]
  rw [e]; exact if_pos h2
 have eE : putE s r = (newV s r).2 := by unfold putE; rw [if_neg h1, if_neg h2]
 refine (if_neg h2).trans ?_
 rw [rvote]
 simp only [Option.bind_some]
 rw [rprepare _ _ (RngV.at hv _ _) hR.1 hR.2, raccept _ _ _ (RngV.at hv _ _) hR.1 hR.2]
 simp only [Option.bind_some]
 have hN : (if r.Kind = 1 then some ((if askE (voteAt s.Votes r.Group r.Slot) r.Ballot [] = 0 then (⟨r.Ballot, (voteAt s.Votes r.Group r.Slot).Ballot, (voteAt s.Votes r.Group r.Slot).Value⟩ : TVote) else zV).Promised, (if askE (voteAt s.Votes r.Group r.Slot) r.Ballot [] = 0 then (⟨r.Ballot, (voteAt s.Votes r.Group r.Slot).Ballot, (voteAt s.Votes r.Group r.Slot).Value⟩ : TVote) else zV).Ballot, (if askE (voteAt s.Votes r.Group r.Slot) r.Ballot [] = 0 then (⟨r.Ballot, (voteAt s.Votes r.Group r.Slot).Ballot, (voteAt s.Votes r.Group r.Slot).Value⟩ : TVote) else zV).Value, askE (voteAt s.Votes r.Group r.Slot) r.Ballot [])
   else if r.Kind = 2 then some ((if askE (voteAt s.Votes r.Group r.Slot) r.Ballot r.Value = 0 then (⟨r.Ballot, r.Ballot, r.Value⟩ : TVote) else zV).Promised, (if askE (voteAt s.Votes r.Group r.Slot) r.Ballot r.Value = 0 then (⟨r.Ballot, r.Ballot, r.Value⟩ : TVote) else zV).Ballot, (if askE (voteAt s.Votes r.Group r.Slot) r.Ballot r.Value = 0 then (⟨r.Ballot, r.Ballot, r.Value⟩ : TVote) else zV).Value, askE (voteAt s.Votes r.Group r.Slot) r.Ballot r.Value)
   else if r.Kind = 3 then some ((0 : Int), (0 : Int), ([] : List UInt8), (0 : Int)) else some ((voteAt s.Votes r.Group r.Slot).Promised, (voteAt s.Votes r.Group r.Slot).Ballot, (voteAt s.Votes r.Group r.Slot).Value, 0)) =
   some ((newV s r).1.Promised, (newV s r).1.Ballot, (newV s r).1.Value, (newV s r).2) := by
  unfold newV
  rcases hk with ⟨k, _⟩ | ⟨k, _⟩ | ⟨k, _⟩
  ·rw [if_pos k, if_pos k]
  ·rw [if_neg (show ¬ r.Kind = 1 by omega), if_pos k, if_neg (show ¬ r.Kind = 1 by omega), if_pos k]
  ·rw [if_neg (show ¬ r.Kind = 1 by omega), if_neg (show ¬ r.Kind = 2 by omega), if_pos k, if_neg (show ¬ r.Kind = 1 by omega), if_neg (show ¬ r.Kind = 2 by omega)]; rfl
 refine (congrArg (fun o => Option.bind o _) hN).trans ?_
 rw [Option.bind_some]
 simp only
 have hVe : (⟨(newV s r).1.Promised, (newV s r).1.Ballot, (newV s r).1.Value⟩ : TVote) = (newV s r).1 := rfl
 rw [eE, hVe]
 by_cases h0 : (newV s r).2 = 0
 ·rw [if_neg (by simpa using h0), if_pos h0, rtwin s (fun x hx => by have := (hs.l x hx).1; omega) (by have := hs.n.2; omega) (by omega), rwith _ _ hl]
  simp only [Option.bind_some]
  unfold putS
  by_cases k : r.Kind = 3
  ·rw [if_pos k, if_pos ⟨hg.1, by omega⟩, if_pos k]; rfl
  ·rw [if_neg k, if_neg k]; rfl
 ·rw [if_pos (by simpa using h0), if_neg h0]; rfl
theorem ifR (c : Prop) [Decidable c] (a b : TRecord × Int) (ha : InR a.1) (hb : InR b.1) : InR (if c then a else b).1 := by split <;> assumption
theorem rd_rng (t : List UInt8) (ht : (t.length : Int) ≤ 9223372036854775807) : InR (rd t).1 := by
 have hL : ((ofBytes t).length : Int) ≤ 9223372036854775807 := by rw [ofB_len]; exact ht
 have h := rd_eq t ht
 rw [m_record_Read, next_gt] at h
 simp only [Option.bind_some] at h
 rw [next_gt] at h
 simp only [Option.bind_some] at h
 rw [next_gt] at h
 simp only [Option.bind_some] at h
 have h' : T3 _ _ _ _ _ = some (rd t) := h
 have hg1 : ∀ l : List Int, (l.length : Int) ≤ 9223372036854775807 → ((gd' l).length : Int) ≤ 9223372036854775807 := fun l h => len_drop h _
 rw [T3_eq _ _ _ _ _ (hg1 _ (hg1 _ (hg1 _ hL))) _ rfl] at h'
 rw [← Option.some.inj h']
 obtain ⟨_, _, _, g1, g2⟩ := gt_ok (gd' (gd' (gd' (ofBytes t))))
 have hn : ∀ c : Prop, [Decidable c] → -9223372036854775808 ≤ (if c then (gt (gd' (gd' (gd' (ofBytes t))))).1 else 0) ∧ (if c then (gt (gd' (gd' (gd' (ofBytes t))))).1 else 0) ≤ 9223372036854775807 := by
  intro c _
  split <;> omega
 exact ifR _ _ _ (hn (wr .u8 (bitw .and .i64 (gt (ofBytes t)).1 255) = 1 ∨ wr .u8 (bitw .and .i64 (gt (ofBytes t)).1 255) = 2)) ⟨by decide, by decide⟩
theorem putS_rng {s : TStable} {r : TRecord} (hv : ∀ v ∈ s.Votes, RngV v) (hR : InR r) (hr : RecOk r) (h0 : putE s r = 0) : ∀ v ∈ (putS s r).Votes, RngV v := by
 intro v hm
 have h4 := (putE_0 h0).2.2.2
 rcases mem_with (show v ∈ withV s.Votes _ from hm) with ⟨rfl, _⟩ | ⟨h, _⟩
 ·have ha := RngV.at hv r.Group r.Slot
  unfold RngV
  simp only
  unfold newV at h4 ⊢
  rcases hr.2.2.2 with ⟨k, _⟩ | ⟨k, _⟩ | ⟨k, _⟩
  ·rw [if_pos k] at h4 ⊢
   simp only at h4 ⊢
   rw [if_pos h4]
   exact ⟨hR, ha.2⟩
  ·rw [if_neg (by omega), if_pos k] at h4 ⊢
   simp only at h4 ⊢
   rw [if_pos h4]
   exact ⟨hR, hR⟩
  ·rw [if_neg (by omega), if_neg (by omega)]
   exact ⟨by decide, by decide⟩
 ·exact hv v h
theorem stS_rng {s : TStable} {t : List UInt8} (hv : ∀ v ∈ s.Votes, RngV v) (ht : (t.length : Int) ≤ 9223372036854775807) (h : (stS s t).2 = 0) : ∀ v ∈ (stS s t).1.Votes, RngV v := by
 unfold stS at h ⊢
 by_cases h1 : (rd t).2 = 0
 ·rw [if_pos h1] at h ⊢
  by_cases h2 : putE s (rd t).1 = 0
  ·rw [if_pos h2]
   exact putS_rng hv (rd_rng t ht) (rd_ok t ht h1) h2
  ·rw [if_neg h2] at h; exact absurd h h2
 ·rw [if_neg h1] at h; exact absurd h h1
theorem rreplay_loop : ∀ (l : Txts) (s : TStable), SOk s → (∀ v ∈ s.Votes, RngV v) → Short l → s.Votes.length + l.length < 400000 →
  m_towncrierref11_Replay_loop1 l s.Logs s.Votes = some (if (foldS s l).2 = 0 then .inr ((foldS s l).1.Logs, (foldS s l).1.Votes) else .inl (eStb, (foldS s l).2))
 | [], s, _, _, _, _ => by rw [m_towncrierref11_Replay_loop1]; simp [foldS]
 | t :: l, s, hs, hv, hl, hn => by
  have ht := hl t (List.mem_cons_self ..)
  simp only [List.length_cons] at hn
  have hsd : (⟨s.Logs, s.Votes⟩ : TStable) = s := rfl
  rw [m_towncrierref11_Replay_loop1, rread_eq t ht, rd_eq t ht]
  simp only [Option.bind_some]
  rw [foldS]
  by_cases h1 : (rd t).2 = 0
  ·rw [if_neg (by simpa using h1), hsd, rapply s _ hs (rd_ok t ht h1) hv (rd_rng t ht) (by omega)]
   simp only [Option.bind_some]
   by_cases h2 : putE s (rd t).1 = 0
   ·have e : stS s t = (putS s (rd t).1, 0) := by unfold stS; rw [if_pos h1, if_pos h2]
    have h0 : (stS s t).2 = 0 := by rw [e]
    obtain ⟨k1, k2⟩ := stS_ok hs ht h0
    have k3 := stS_rng hv ht h0
    rw [if_pos h2]
    simp only
    rw [if_neg (by simp), if_pos h0]
    have ih := rreplay_loop l (stS s t).1 k1 k3 (fun x hx => hl x (List.mem_cons_of_mem _ hx)) (by omega)
    rw [e] at ih ⊢
    exact ih
   ·have e : stS s t = (eStb, putE s (rd t).1) := by unfold stS; rw [if_pos h1, if_neg h2]
    rw [if_neg h2, e]
    simp only
    rw [if_pos h2, if_neg h2, if_neg h2]; rfl
  ·have e : stS s t = (eStb, (rd t).2) := by unfold stS; rw [if_neg h1]
   rw [if_pos h1, e]
   simp only
   rw [if_neg h1, if_neg h1]; rfl
theorem rnew (n : Int) : m_towncrierref11_New n = m_stable_New n := rfl
theorem rreplay (n : Int) (l : Txts) (hl : Short l) (hn : l.length ≤ 65536) : m_towncrierref11_Replay n l = some (if 1 ≤ n ∧ n ≤ 4 then foldS (newS n) l else (eStb, 2)) := by
 rw [m_towncrierref11_Replay, rnew, new_eq]
 simp only [Option.bind_some]
 by_cases h : 1 ≤ n ∧ n ≤ 4
 ·rw [if_pos h, if_pos h, if_neg (by simp), if_neg (by omega)]
  rw [rreplay_loop l (newS n) (new_ok h) (fun v hv => by cases hv) hl (by unfold newS; simp; omega)]
  simp only [Option.bind_some]
  by_cases h0 : (foldS (newS n) l).2 = 0
  ·rw [if_pos h0]
   simp only
   rw [← h0]
  ·rw [if_neg h0]
   simp only
   rw [← foldS_bad _ _ h0]
 ·rw [if_neg h, if_neg h, if_pos (by decide)]; rfl
end Go.Proofs
end
section
namespace Go.Proofs
open Go.Tm
set_option linter.unusedSimpArgs false
theorem rbytes_loop : ∀ (fu : Nat) (l : List Int) (n : Nat), n < 128 ^ fu → n < 9223372036854775808 → l.length + fu < 100000 → ∃ (I : List Int) (m : Nat), m_towncrierref01_Bytes_loop1 (fu + 1) (n : Int) l = some ((m : Int), l ++ I) ∧ m < 128 ∧ enc n = I ++ [(m : Int)]
 | 0, l, n, h, _, _ => by
  have : n = 0 := by simpa using h
  subst this
  exact ⟨[], 0, by rw [m_towncrierref01_Bytes_loop1, if_neg (by decide), List.append_nil], by decide, enc_lt (by decide)⟩
 | fu + 1, l, n, h, h2, hl => by
  rw [m_towncrierref01_Bytes_loop1]
  by_cases h1 : n < 128
  ·rw [if_neg (by omega)]
   exact ⟨[], n, by rw [List.append_nil], h1, enc_lt h1⟩
  ·have e1 : wr .u8 (wr .i64 ((n : Int).tmod 128 + 128)) = ((n % 128 + 128 : Nat) : Int) := by
    rw [Int.tmod_eq_emod_of_nonneg (by omega), wr_i (by omega) (by omega)]
    have : (n : Int) % 128 + 128 = ((n % 128 + 128 : Nat) : Int) := by omega
    rw [this, wr8 (by omega)]
   have e2 : wr .i64 ((n : Int).tdiv 128) = ((n / 128 : Nat) : Int) := by
    rw [Int.tdiv_eq_ediv_of_nonneg (by omega), wr_i (by omega) (by omega)]
    omega
   rw [if_pos (by omega), e1, e2, if_pos (by simp; omega)]
   obtain ⟨I, m, k1, k2, k3⟩ := rbytes_loop fu (l ++ [((n % 128 + 128 : Nat) : Int)]) (n / 128) (by rw [Nat.pow_succ] at h; omega) (by omega) (by simp; omega)
   exact ⟨((n % 128 + 128 : Nat) : Int) :: I, m, by rw [k1, List.append_assoc]; rfl, k2, by rw [enc_ge h1, k3]; rfl⟩
theorem rbytes (n : Nat) (h : n < 9223372036854775808) : m_towncrierref01_Bytes (n : Int) = some (enc n) := by
 obtain ⟨I, m, e1, e2, e3⟩ := rbytes_loop 10 [] n (by omega) h (by simp)
 rw [m_towncrierref01_Bytes, e1]
 simp only [Option.bind_some]
 have hi : I.length ≤ 10 := by
  have := enc_len 9 n (by omega)
  rw [e3] at this
  simp at this
  omega
 rw [if_pos (by simp; omega), wr8 (by omega), e3]; rfl
theorem rtextb (v : List UInt8) (h : v.length ≤ 1024) : m_towncrierref01_TextBytes v = some (encT v) := by
 have h1 := enc_len 1 v.length (by omega)
 rw [m_towncrierref01_TextBytes, rbytes _ (by omega)]
 simp only [Option.bind_some]
 rw [if_pos (by rw [ofB_len]; omega)]; rfl
theorem rtext (r : TRecord) (h : RecOk r) (hr : InR r) : m_towncrierref10_Text r = some (txt r) := by
 obtain ⟨k, g, s, b, ek, eg, es, eb, k1, k2, g2, s2, b2⟩ := h.nums hr
 have hv := h.2.2.1
 have l3 := enc_len 1 s (by omega)
 have l4 := enc_len 3 b (by omega)
 have l5 : (encT r.Value).length ≤ 1100 := by
  have := enc_len 1 r.Value.length (by omega)
  unfold encT
  rw [List.length_append, ofB_len]; omega
 have hrec : recB r = [(k : Int), (g : Int)] ++ enc s ++ (if r.Kind = 1 ∨ r.Kind = 2 then enc b else []) ++ (if r.Kind = 2 ∨ r.Kind = 3 then encT r.Value else []) := by
  unfold recB
  rw [ek, eg, es, eb]
  simp only [Int.toNat_natCast]
  rw [enc_lt (show k < 128 by omega), enc_lt (show g < 128 by omega)]
  simp
 rw [m_towncrierref10_Text, es, rbytes s (by omega), eb, rbytes b (by omega), rtextb _ hv]
 simp only [Option.bind_some]
 rw [eg, wr8 (by omega)]
 unfold txt
 rw [hrec]
 rcases (by omega : k = 1 ∨ k = 2 ∨ k = 3) with rfl | rfl | rfl
 ·rw [ek]
  simp
  rw [if_pos (by omega)]
  simp
  try omega
 ·rw [ek]
  simp
  rw [if_pos (by omega)]
  simp
  refine ⟨by omega, ?_⟩
  rw [if_pos (by omega)]
  rfl
 ·rw [ek]
  simp
  try rw [if_pos (by omega)]
  try simp
  try omega
theorem rr_loop2 (a0 : TStable) (g : Nat) (hg : g < a0.Logs.length) : ∀ (y : Txts) (i fu : Nat) (l : List TRecord), (a0.Logs.getD g default).drop i = y → (a0.Logs.getD g default).length ≤ 200 → y.length < fu → l.length + y.length < 900000 →
  m_towncrierref11_Records_loop2 a0 (g : Int) fu l (i : Int) = some (l ++ decs g i y)
 | _, _, 0, _, _, _, h, _ => absurd h (Nat.not_lt_zero _)
 | [], i, fu + 1, l, hd, h2, _, _ => by
  have : (a0.Logs.getD g default).length ≤ i := by
   have := congrArg List.length hd
   simp only [List.length_drop, List.length_nil] at this
   omega
  rw [m_towncrierref11_Records_loop2]
  simp only [Int.toNat_natCast]
  rw [if_pos ⟨by omega, by omega⟩, if_neg (by omega)]
  simp [decs]
 | v :: y, i, fu + 1, l, hd, h2, hf, hl => by
  have hi : i < (a0.Logs.getD g default).length := by
   rcases Nat.lt_or_ge i (a0.Logs.getD g default).length with h | h
   ·exact h
   ·rw [List.drop_of_length_le h] at hd; cases hd
  have hd' := hd
  rw [List.drop_eq_getElem_cons hi] at hd'
  obtain ⟨e1, e2⟩ := List.cons.inj hd'
  have eg : (a0.Logs.getD g default).getD i default = v := by
   rw [List.getD_eq_getElem?_getD, List.getElem?_eq_getElem hi, e1]; rfl
  simp only [List.length_cons] at hf hl
  have ew : wr .i64 ((i : Int) + 1) = ((i + 1 : Nat) : Int) := by rw [wr_i (by omega) (by omega)]; omega
  have hgg : (0 : Int) ≤ (g : Int) ∧ (g : Int) < (a0.Logs.length : Int) := ⟨by omega, by omega⟩
  rw [m_towncrierref11_Records_loop2]
  simp only [Int.toNat_natCast]
  rw [if_pos hgg, if_pos (by omega), if_pos hgg, if_pos ⟨by omega, by omega⟩, if_pos (by simp; omega), ew, eg]
  rw [rr_loop2 a0 g hg y (i + 1) fu _ e2 h2 (by omega) (by simp; omega)]
  simp only [decs, List.append_assoc, List.singleton_append]
theorem rr_loop1 (a0 : TStable) (hs : SOk a0) : ∀ (L : List Txts) (g fu : Nat) (l : List TRecord), a0.Logs.drop g = L → L.length < fu → l.length + 200 * L.length < 800000 →
  m_towncrierref11_Records_loop1 a0 fu l (g : Int) = some (l ++ allDecs g L)
 | _, _, 0, _, _, h, _ => absurd h (Nat.not_lt_zero _)
 | [], g, fu + 1, l, hd, _, _ => by
  have : a0.Logs.length ≤ g := by
   have := congrArg List.length hd
   simp only [List.length_drop, List.length_nil] at this
   omega
  rw [m_towncrierref11_Records_loop1, if_neg (by omega)]
  simp [allDecs]
 | y :: L, g, fu + 1, l, hd, hf, hl => by
  have hg : g < a0.Logs.length := by
   rcases Nat.lt_or_ge g a0.Logs.length with h | h
   ·exact h
   ·rw [List.drop_of_length_le h] at hd; cases hd
  have hd' := hd
  rw [List.drop_eq_getElem_cons hg] at hd'
  obtain ⟨e1, e2⟩ := List.cons.inj hd'
  have eg : a0.Logs.getD g default = y := by
   rw [List.getD_eq_getElem?_getD, List.getElem?_eq_getElem hg, e1]; rfl
  have hn := hs.n.2
  have hy : LogOk y := hs.l y (by rw [← e1]; exact List.getElem_mem hg)
  simp only [List.length_cons] at hf hl
  have ew : wr .i64 ((g : Int) + 1) = ((g + 1 : Nat) : Int) := by rw [wr_i (by omega) (by omega)]; omega
  have hy1 := hy.1
  have i2 := rr_loop2 a0 g hg y 0 1000001 l (by rw [eg]; rfl) (by rw [eg]; exact hy.1) (by omega) (by omega)
  have z : ((0 : Nat) : Int) = 0 := rfl
  rw [z] at i2
  have hdl := decs_len g y 0
  rw [m_towncrierref11_Records_loop1, if_pos (by omega), i2]
  simp only [Option.bind_some]
  rw [ew, rr_loop1 a0 hs L (g + 1) fu _ e2 (by omega) (by simp [hdl]; omega)]
  simp only [allDecs, List.append_assoc]
theorem vrecs_le (v : TSeen) : (vrecs v).length ≤ 2 := by
 unfold vrecs
 split <;> split <;> simp
theorem rr_loop3 (a0 : TStable) (hV : a0.Votes.length ≤ 10000) : ∀ (V : List TSeen) (k fu : Nat) (l : List TRecord), a0.Votes.drop k = V → V.length < fu → l.length + 2 * V.length < 900000 →
  m_towncrierref11_Records_loop3 a0 fu l (k : Int) = some (l ++ V.flatMap vrecs)
 | _, _, 0, _, _, h, _ => absurd h (Nat.not_lt_zero _)
 | [], k, fu + 1, l, hd, _, _ => by
  have : a0.Votes.length ≤ k := by
   have := congrArg List.length hd
   simp only [List.length_drop, List.length_nil] at this
   omega
  rw [m_towncrierref11_Records_loop3, if_neg (by omega)]
  simp
 | v :: V, k, fu + 1, l, hd, hf, hl => by
  have hk : k < a0.Votes.length := by
   rcases Nat.lt_or_ge k a0.Votes.length with h | h
   ·exact h
   ·rw [List.drop_of_length_le h] at hd; cases hd
  have hd' := hd
  rw [List.drop_eq_getElem_cons hk] at hd'
  obtain ⟨e1, e2⟩ := List.cons.inj hd'
  have eg : a0.Votes.getD k default = v := by
   rw [List.getD_eq_getElem?_getD, List.getElem?_eq_getElem hk, e1]; rfl
  simp only [List.length_cons] at hf hl
  have ew : wr .i64 ((k : Int) + 1) = ((k + 1 : Nat) : Int) := by rw [wr_i (by omega) (by omega)]; omega
  rw [m_towncrierref11_Records_loop3, if_pos (by omega), if_pos ⟨by omega, by omega⟩]
  simp only [Int.toNat_natCast, eg]
  have hvl := vrecs_le v
  have first : (Option.bind (α := (List TRecord)) (if v.Vote.Ballot > 0 then
    if l.length + [(⟨2, v.Group, v.Slot, v.Vote.Ballot, v.Vote.Value⟩ : TRecord)].length < 1000000 then
    some (l ++ [(⟨2, v.Group, v.Slot, v.Vote.Ballot, v.Vote.Value⟩ : TRecord)]) else none else some l) fun l8 =>
    if v.Vote.Promised > v.Vote.Ballot then
    if l8.length + [(⟨1, v.Group, v.Slot, v.Vote.Promised, []⟩ : TRecord)].length < 1000000 then
    some (l8 ++ [(⟨1, v.Group, v.Slot, v.Vote.Promised, []⟩ : TRecord)]) else none else some l8) = some (l ++ vrecs v) := by
   unfold vrecs
   by_cases h0 : v.Vote.Ballot > 0
   ·rw [if_pos h0, if_pos h0, if_pos (by simp; omega)]
    simp only [Option.bind_some]
    by_cases hp : v.Vote.Promised > v.Vote.Ballot
    ·rw [if_pos hp, if_pos hp, if_pos (by simp; omega)]
     simp
    ·rw [if_neg hp, if_neg hp]
     simp
   ·rw [if_neg h0, if_neg h0]
    simp only [Option.bind_some]
    by_cases hp : v.Vote.Promised > v.Vote.Ballot
    ·rw [if_pos hp, if_pos hp, if_pos (by simp; omega)]
     simp
    ·rw [if_neg hp, if_neg hp]
     simp
  refine (congrArg (fun o => Option.bind o _) first).trans ?_
  rw [Option.bind_some, ew, rr_loop3 a0 hV V (k + 1) fu _ e2 (by omega) (by simp; omega)]
  simp only [List.flatMap_cons, List.append_assoc]
theorem rrecords (s : TStable) (hs : SOk s) (hV : s.Votes.length ≤ 10000) : m_towncrierref11_Records s = some (recsOf s) := by
 have hn := hs.n
 have ht := total_le s.Logs hs.l
 have hal := allDecs_len s.Logs 0
 have i1 := rr_loop1 s hs s.Logs 0 (s.Logs.length + 1) [] rfl (by omega) (by simp; omega)
 have i3 := rr_loop3 s hV s.Votes 0 (s.Votes.length + 1) ([] ++ allDecs 0 s.Logs) rfl (by omega) (by simp [hal]; omega)
 have z : ((0 : Nat) : Int) = 0 := rfl
 rw [z] at i1 i3
 rw [m_towncrierref11_Records, i1]
 simp only [Option.bind_some]
 rw [i3]
 simp only [Option.bind_some, List.nil_append, recsOf]
theorem rim_loop (v2 : List TRecord) (h : ∀ r ∈ v2, RecOk r ∧ InR r) (hn : v2.length < 900000) : ∀ (R : List TRecord) (k fu : Nat) (l : Txts), v2.drop k = R → R.length < fu → l.length + R.length < 900000 →
  m_towncrierref11_Image_loop1 v2 fu l (k : Int) = some (l ++ R.map txt)
 | _, _, 0, _, _, h, _ => absurd h (Nat.not_lt_zero _)
 | [], k, fu + 1, l, hd, _, _ => by
  have : v2.length ≤ k := by
   have := congrArg List.length hd
   simp only [List.length_drop, List.length_nil] at this
   omega
  rw [m_towncrierref11_Image_loop1, if_neg (by omega)]
  simp
 | r :: R, k, fu + 1, l, hd, hf, hl => by
  have hk : k < v2.length := by
   rcases Nat.lt_or_ge k v2.length with h | h
   ·exact h
   ·rw [List.drop_of_length_le h] at hd; cases hd
  have hd' := hd
  rw [List.drop_eq_getElem_cons hk] at hd'
  obtain ⟨e1, e2⟩ := List.cons.inj hd'
  have eg : v2.getD k default = r := by
   rw [List.getD_eq_getElem?_getD, List.getElem?_eq_getElem hk, e1]; rfl
  have hm := h r (by rw [← e1]; exact List.getElem_mem hk)
  simp only [List.length_cons] at hf hl
  have ew : wr .i64 ((k : Int) + 1) = ((k + 1 : Nat) : Int) := by rw [wr_i (by omega) (by omega)]; omega
  rw [m_towncrierref11_Image_loop1, if_pos (by omega), if_pos ⟨by omega, by omega⟩]
  simp only [Int.toNat_natCast, eg]
  rw [rtext r hm.1 hm.2]
  simp only [Option.bind_some]
  rw [if_pos (by simp; omega), ew, rim_loop v2 h hn R (k + 1) fu _ e2 (by omega) (by simp; omega)]
  simp
theorem rimage (s : TStable) (hr : ∀ v ∈ s.Votes, RngV v) (hV : s.Votes.length ≤ 10000) : m_towncrierref11_Image s = some (if SOk s then ((recsOf s).map txt, 0) else ([], 8)) := by
 rw [m_towncrierref11_Image, rmay_eq s hr]
 simp only [Option.bind_some]
 by_cases hs : SOk s
 ·have ht := total_le s.Logs hs.l
  have hn := hs.n
  have hal := allDecs_len s.Logs 0
  have hf := (flat_len s.Votes hs.v hr).2
  have hlen : (recsOf s).length = total s.Logs + (s.Votes.flatMap vrecs).length := by unfold recsOf; rw [List.length_append, hal]
  rw [if_pos hs, decide_eq_true hs, if_neg (by simp), rrecords s hs hV]
  simp only [Option.bind_some]
  have i1 := rim_loop (recsOf s) (recs_ok s hs hr) (by omega) (recsOf s) 0 1000001 [] rfl (by omega) (by simp; omega)
  have z : ((0 : Nat) : Int) = 0 := rfl
  rw [z] at i1
  rw [i1]
  simp
 ·rw [if_neg hs, decide_eq_false hs, if_pos (by simp)]
theorem simage (s : TStable) (hr : ∀ v ∈ s.Votes, RngV v) (hV : s.Votes.length ≤ 10000) : m_stable_Image s = some (if SOk s then ((recsOf s).map txt, 0) else ([], 8)) := by
 by_cases hs : SOk s
 ·rw [if_pos hs]; exact image_eq s hs hr hV
 ·rw [m_stable_Image, check_eq, if_neg hs, if_neg hs]; rfl
theorem rsv_loop (b : List TSeen) : ∀ (l : List TSeen) (n : Nat), b.drop n = l → m_towncrierref11_SameVotes_loop1 b l n = some (.inr ())
 | [], n, _ => by rw [m_towncrierref11_SameVotes_loop1]
 | y :: l, n, h => by
  have hn : n < b.length := by
   rcases Nat.lt_or_ge n b.length with h' | h'
   ·exact h'
   ·rw [List.drop_of_length_le h'] at h; cases h
  have hd := h
  rw [List.drop_eq_getElem_cons hn] at hd
  obtain ⟨hy, hr⟩ := List.cons.inj hd
  have e : b.getD n default = y := by rw [List.getD_eq_getElem?_getD, List.getElem?_eq_getElem hn, hy]; rfl
  rw [m_towncrierref11_SameVotes_loop1, if_pos hn, e, if_neg (by simp), rsv_loop b l (n + 1) hr]
theorem rsl_loop (s : TStable) : ∀ (l : List Txts) (n : Nat), s.Logs.drop n = l → m_towncrierref11_Same_loop1 s l n = some (.inr ())
 | [], n, _ => by rw [m_towncrierref11_Same_loop1]
 | y :: l, n, h => by
  have hn : n < s.Logs.length := by
   rcases Nat.lt_or_ge n s.Logs.length with h' | h'
   ·exact h'
   ·rw [List.drop_of_length_le h'] at h; cases h
  have hd := h
  rw [List.drop_eq_getElem_cons hn] at hd
  obtain ⟨hy, hr⟩ := List.cons.inj hd
  have e : s.Logs.getD n default = y := by rw [List.getD_eq_getElem?_getD, List.getElem?_eq_getElem hn, hy]; rfl
  rw [m_towncrierref11_Same_loop1, if_pos hn, e, same_refl]
  simp only [Option.bind_some]
  rw [if_neg (by simp), rsl_loop s l (n + 1) hr]
theorem rsame (s : TStable) : m_towncrierref11_Same s s = some true := by
 have hv : m_towncrierref11_SameVotes s.Votes s.Votes = some true := by
  rw [m_towncrierref11_SameVotes, if_neg (by simp), rsv_loop s.Votes s.Votes 0 rfl]; rfl
 rw [m_towncrierref11_Same, if_pos (by simp), hv]
 simp only [Option.bind_some]
 rw [if_neg (by simp), rsl_loop s s.Logs 0 rfl]
 rfl
theorem great_len (l : Txts) (h : m_towncrierref01_Great l = some false) : l.length ≤ 1000 := by
 rw [m_towncrierref01_Great] at h
 obtain ⟨n, _, h⟩ := bind_some h
 simp only [Option.some.injEq, Bool.or_eq_false_iff, decide_eq_false_iff_not] at h
 omega
theorem gt_loop' : ∀ (l : List Txts) (n : Nat), n + l.length ≤ 20 → m_towncrierref11_Great_loop1 l n = some (.inr ()) → ∀ y ∈ l, y.length ≤ 1000
 | [], _, _, _, y, hy => by cases hy
 | x :: l, n, hn, h, y, hy => by
  simp only [List.length_cons] at hn
  rw [m_towncrierref11_Great_loop1, if_pos (by omega)] at h
  obtain ⟨b, hb, h⟩ := bind_some h
  split at h
  ·cases h
  ·rename_i hc
   have hb0 : b = false := by simpa using hc
   subst hb0
   rcases List.mem_cons.1 hy with rfl | hy
   ·exact great_len _ hb
   ·exact gt_loop' l (n + 1) (by omega) h y hy
theorem great_logs (s : TStable) (h : m_towncrierref11_Great s = some false) : s.Logs.length ≤ 10 ∧ s.Votes.length ≤ 1000 ∧ ∀ y ∈ s.Logs, y.length ≤ 1000 := by
 obtain ⟨b, hb, hl⟩ := great_eq s
 have : b = false := by rw [h] at hb; cases hb; rfl
 obtain ⟨h1, h2⟩ := hl this
 refine ⟨h2, h1, ?_⟩
 rw [m_towncrierref11_Great] at h
 obtain ⟨z, hz, h⟩ := bind_some h
 obtain ⟨r, hr, hrb⟩ := gt_loop s.Logs 0
 rw [hr] at hz
 cases hz
 cases z with
 | inl c =>
  simp only [Option.some.injEq] at h
  subst h
  have := hrb false rfl
  cases this
 | inr u => exact gt_loop' s.Logs 0 (by omega) hr
theorem replays_law (a0 : Int) (a1 : Txts) (a2 : TStable) (hw : wfL [.int .i64 a0, .imm 1 (a1.map D.str) 4, a2.d]) : m_towncrierlaw11_StableReplays a0 a1 a2 = some true := by
 simp only [wfL] at hw
 obtain ⟨_, w1, w2, _⟩ := hw
 have s1 := short_wf w1
 have hr := rng_wf w2
 obtain ⟨b1, hb1⟩ := great_txt a1
 obtain ⟨b2, hb2, _⟩ := great_eq a2
 rw [m_towncrierlaw11_StableReplays, hb1, hb2]
 by_cases hL : (a1.length : Int) > 150
 ·rw [if_neg (fun h => h hL)]
  simp only [Option.bind_some]
  rw [if_neg (fun h => h (.inl hL))]
  simp only [Option.bind_some]
  rw [if_pos (.inl (.inl hL))]
 ·rw [if_pos hL]
  simp only [Option.bind_some]
  by_cases hB : b1 = true
  ·rw [if_neg (fun h => h (.inr hB))]
   simp only [Option.bind_some]
   rw [if_pos (.inl (.inr hB))]
  ·rw [if_pos (fun h => h.elim hL hB)]
   simp only [Option.bind_some]
   by_cases hB2 : b2 = true
   ·rw [if_pos (.inr hB2)]
   ·have hf : b2 = false := by simpa using hB2
    rw [hf] at hb2
    obtain ⟨g1, g2, g3⟩ := great_logs a2 hb2
    rw [if_neg (fun h => h.elim (fun h => h.elim hL hB) hB2), rnew, new_eq, replay_eq a0 a1 s1 (by omega), rreplay a0 a1 s1 (by omega), rtwin a2 (fun x hx => by have := g3 x hx; omega) (by omega) (by omega)]
    simp only [Option.bind_some]
    rw [simage a2 hr (by omega), rimage a2 hr (by omega)]
    simp only [Option.bind_some]
    rw [rsame]
    simp only [Option.bind_some]
    rw [if_pos ⟨trivial, trivial⟩, rsame]
    simp only [Option.bind_some]
    rw [if_pos ⟨⟨⟨trivial, trivial⟩, trivial⟩, trivial⟩, same_refl]
    simp only [Option.bind_some]
    rw [if_pos ⟨⟨⟨⟨⟨trivial, trivial⟩, trivial⟩, trivial⟩, trivial⟩, trivial⟩, rsame]
    simp
end Go.Proofs
end
section
namespace Go.Proofs
open Go.Tm Go.RowKit Go.WideShapes
set_option maxRecDepth 100000
set_option maxHeartbeats 4000000
set_option linter.unusedSimpArgs false
set_option linter.unusedVariables false
attribute [local go_sem] argVars runE runK isCallV stepE aop opd opdsL opds opdO ev ofVal keep List.any natbeq Bool.false_or Bool.true_or aggEq cond_true cond_false Bool.cond_false_right Bool.cond_true_left beq_true beq_false imp_self implies_true getR getL put St.app effL del nwB blt_dec Nat.lt_irrefl Nat.lt_add_one ble_dec Nat.le_refl Nat.beq_refl roomNZ appendIn capS capK mkZ_zero mkZL_zero zeroEl D.ids D.idsL bin arith sarith binT dpick Tm.part splice fillD oneD loadD storeD srcD sliceD idxOk decide_true gval dstAt D.cells List.map_cons List.map_nil List.take List.drop List.length_map List.append Int.toNat_natCast and_true true_and decide_false List.length_cons List.length_nil List.append_nil List.nil_append Bool.and_true Bool.true_and Bool.not_false Bool.not_true ne_eq not_false_eq_true BEq.rfl List.getElem?_cons_zero List.getElem?_cons_succ List.getElem?_nil Nat.zero_add List.all_cons List.all_nil List.isEmpty_cons List.isEmpty_nil Option.getD_some Option.getD_none List.any_cons List.any_nil List.drop_succ_cons List.drop_zero unfL unf okM okML low3 List.cons_append true_or or_true Nat.zero_mul Nat.zero_le findD_int findD_str  getD_int getD_str getD_bool Option.isSome_map keyD List.length_replicate List.map_replicate setEl List.length_set bytesD_map map_ub mx_len mkZ_one mkZL_one mkM mkML mk1_int mk1_str mk1_bool drop_map take_map take_map_len List.take_length Int.toNat_zero toNat_pred fpOf metIds opIds mvV mvH mvF pickL D.ren D.renL Blk.ren List.map_append List.length_append Bool.not_not Bool.or_not_self Bool.not_or_self Bool.or_true
attribute [local go_sem] Try.tm_1 Try.tm_2 Try.tm_3 Try.tm_4 Try.tm_5 Try.tm_6 Try.tm_7 Try.tm_8 Try.tm_9 Try.tm_10 Try.tm_11 Try.tm_12 Try.tm_13 Try.tm_14 Try.tm_15 Try.tm_16 Try.tm_17 Try.tm_18 Try.tm_19 Try.tm_20 Try.tm_21 Try.tm_22 Try.tm_23 Try.tm_24 Try.tm_25 Try.tm_26 Try.tm_27 Try.tm_28 Try.tm_29 Try.tm_30 Try.tm_32 Try.tm_33 Try.tm_34 Try.tm_35 Try.tm_36 Try.tm_37 Try.tm_39 Try.tm_40 Try.tm_41 Try.tm_43 Try.tm_45 Try.tm_46 Try.tm_47 Try.tm_48 Try.tm_49 Try.tm_50 Try.tm_51 Try.tm_52 Try.tm_53 Try.tm_55 Try.tm_57 Try.tm_58 Try.tm_60 Try.tm_61 Try.tm_63 Try.tm_64 Try.tm_65 Try.tm_66 Try.tm_67 Try.tm_68 Try.tm_69 Try.tm_70 Try.tm_71 Try.tm_72 Try.tm_73 Try.tm_74 Try.tm_76 Try.tm_77 Try.tm_78 Try.tm_79 Try.tm_80 Try.tm_81 Try.tm_82 Try.tm_83 Try.tm_84 Try.tm_85 Try.tm_86 Try.tm_87 Try.tm_89 Try.tm_91 Try.tm_92 Try.tm_93 Try.tm_94 Try.tm_95 Try.tm_96 Try.tm_98 Try.tm_99 Try.tm_101 Try.tm_103 Try.tm_104 Try.tm_105 Try.tm_106 Try.tm_107 Try.tm_108 Try.tm_109 Try.tm_110 Try.tm_111 Try.tm_112 Try.tm_113 Try.tm_114 Try.tm_115 Try.tm_116 Try.tm_117 Try.tm_118 Try.tm_119 Try.tm_120 Try.tm_121 Try.tm_123 Try.tm_124 Try.tm_125 Try.tm_126 Try.tm_127 Try.tm_128 Try.tm_129 Try.tm_130 Try.tm_132 Try.tm_134 Try.tm_135 Try.tm_136 Try.tm_137 Try.tm_138 Try.tm_139 Try.tm_140 Try.tm_143 Try.tm_144 Try.tm_145 Try.tm_146 Try.tm_147 Try.tm_148 Try.tm_149 Try.tm_150 Try.tm_151 dL_str nL_str TVote.d TSeen.d TStable.d TStable.n TRecord.d mk1_dL_str mk1_TVote mk1_TSeen mk1_TStable mk1_TRecord Ttowncrierref01_Reader.d Ttowncrierref01_Reader.n mk1_Ttowncrierref01_Reader Try.f26 Try.f5
def Try.St_towncrierref11_Replay_1 (l1 : List (List (List UInt8))) (l2 : List TSeen) : St := ⟨[(4, .ptr 0 0), (6, .ptr 1 0)], [(0, .box [.imm 0 [] 0, .imm 0 [] 0]), (1, .box [.imm 1 (l1.map dL_str) 12, .imm 5 (l2.map TSeen.d) 12])], 2⟩
attribute [local go_sem] Try.St_towncrierref11_Replay_1
def Try.St_towncrierref11_Replay_3 (a1 : List (List UInt8)) (n1 : Nat) (l3 : List (List (List UInt8))) (l4 : List TSeen) : St := ⟨[(1, .imm 1 (a1.map D.str) 4), (4, .ptr 0 0), (6, .ptr 1 0), (8, .int .i64 (n1 : Int))], [(0, .box [.imm 0 [] 0, .imm 0 [] 0]), (1, .box [.imm 1 (l3.map dL_str) 12, .imm 5 (l4.map TSeen.d) 12])], 2⟩
attribute [local go_sem] Try.St_towncrierref11_Replay_3
def Try.Re_towncrierref11_Replay (r : TStable × Int) : St := ⟨[(4, .ptr 0 0), (5, .int .i64 r.2)], [(0, .box [.imm 1 (r.1.Logs.map dL_str) 12, .imm 5 (r.1.Votes.map TSeen.d) 12])], 1⟩
attribute [local go_sem] Try.Re_towncrierref11_Replay
theorem callH_towncrierref11_Replay (a0 : Int) (a1 : List (List UInt8)) (r : TStable × Int) (h : m_towncrierref11_Replay a0 a1 = some r) : CallH Try.prog 26 [.int .i64 a0, .imm 1 (a1.map D.str) 4] [] (.tuple [.agg [.imm 1 (r.1.Logs.map dL_str) 12, .imm 5 (r.1.Votes.map TSeen.d) 12], .int .i64 r.2]) [] (0, 6) := by
 refine callH_intro' Try.tmOk Try.func26 rfl (by decide) (Nat.le_of_ble_eq_true rfl) (by simp) ?_
 intro hwf
 unfold m_towncrierref11_Replay at h
 refine .ends 0 (Nat.le_refl _) ?_
 refine .seq ?_
 refine .pl Try.S [0, 1] ?_
 refine .seq ?_
 obtain ⟨v1, hv1, h⟩ := bind_some h
 refine .rg Try.S [0, 1, 4] ?_
 refine .rn 1 ?_
 refine .call (r := .tuple [.agg [.imm 1 (v1.1.Logs.map dL_str) 12, .imm 5 (v1.1.Votes.map TSeen.d) 12], .int .i64 v1.2]) rfl rfl rfl rfl rfl rfl (callP_towncrierref11_New a0 v1 hv1) ?_
 refine .rn 6 ?_
 refine .nil ⟨nofun, ?_⟩
 refine .seq ?_
 refine .seq ?_
 refine .pl Try.S [1, 4, 6, 7] ?_
 refine .cond rfl rfl (fun hc1 => ?_) (fun hc1 => ?_)
 ·skip
  replace h := ite_lc h hc1
  refine .seq ?_
  refine .pl Try.S [4, 7] ?_
  have hq := Option.some.inj h
  subst r
  refine .ret ⟨Try.Re_towncrierref11_Replay ((⟨[], []⟩ : TStable), v1.2), ?_, .inr rfl, retH [] ?_ ?_⟩
  ·skip
   refine Goes.boxs 0 _ [.imm 1 [] 12, .imm 5 [] 12] rfl (.cons (.nil12 _ _ 0 (by decide)) (.cons (.nil12 _ _ 0 (by decide)) (.refl _))) ?_
   exact .m [4, 5] [0] []
  ·exact rsi0
  ·rfl
 ·skip
  replace h := ite_rc h hc1
  refine .skip ?_
  refine .seq ?_
  refine .seq ?_
  refine .pl Try.S [1, 4, 6] ?_
  refine .cond rfl rfl (fun hc2 => ?_) (fun hc2 => ?_)
  ·skip
   replace h := ite_lc h hc2
   refine .seq ?_
   refine .pl Try.S [4] ?_
   have hq := Option.some.inj h
   subst r
   refine .ret ⟨Try.Re_towncrierref11_Replay ((⟨[], []⟩ : TStable), 4), ?_, .inr rfl, retH [] ?_ ?_⟩
   ·skip
    refine Goes.boxs 0 _ [.imm 1 [] 12, .imm 5 [] 12] rfl (.cons (.nil12 _ _ 0 (by decide)) (.cons (.nil12 _ _ 0 (by decide)) (.refl _))) ?_
    exact .m [4, 5] [0] []
   ·exact rsi0
   ·rfl
  ·skip
   replace h := ite_rc h hc2
   refine .skip ?_
   obtain ⟨x1, hx1, h⟩ := bind_some h
   refine .seqM 2 (fun (j : (List (List (List UInt8))) × (List TSeen)) => Try.St_towncrierref11_Replay_1 j.1 j.2) (fun j => x1 = (.inr j)) (Nat.le_of_ble_eq_true rfl) ?_ ?_
   ·skip
    refine .seq ?_
    refine .pl Try.S [1, 4, 6] ?_
    refine .block ?_
    refine .loopG 2 (fun (j : Nat × (List (List (List UInt8))) × (List TSeen)) => Try.St_towncrierref11_Replay_3 a1 j.1 j.2.1 j.2.2) (fun j => j.1 ≤ a1.length ∧ m_towncrierref11_Replay_loop1 (a1.drop j.1) j.2.1 j.2.2 = some x1) (fun j => a1.length - j.1) (0, v1.1.Logs, v1.1.Votes) (Nat.le_of_ble_eq_true rfl) ?_ ⟨Nat.zero_le _, hx1⟩ ?_
    ·skip
     exact .m [1, 4, 6, 8] [0, 1] []
    rintro ⟨n1, l3, l4⟩ ⟨hi1, hx1⟩
    simp only [Try.St_towncrierref11_Replay_3]
    simp only at hi1 hx1
    refine .wf 1 (.imm 1 (a1.map D.str) 4) rfl ?_
    intro hln1
    replace hln1 : (a1.length : Int) ≤ 9223372036854775807 := by simp only [wf, wfL, IntKind.max, IntKind.min, IntKind.signed, IntKind.bits, List.length_map] at hln1; first | exact hln1.2 | exact hln1.1 | (simp at hln1; omega)
    refine .seq ?_
    refine .seq ?_
    refine .pl Try.S [1, 4, 6, 8] ?_
    refine .cond rfl rfl (fun hc3 => ?_) (fun hc3 => ?_)
    ·skip
     have h1 : n1 < a1.length := by simpa using hc3
     have hwn1 : wr .i64 ((n1 : Int) + 1) = ((n1 + 1 : Nat) : Int) := wr_succ h1 hln1
     have hpn1 : wr .i64 ((n1 : Int) - 1) = (n1 : Int) - 1 := wr_pred h1 hln1
     rw [List.drop_eq_getElem_cons h1, m_towncrierref11_Replay_loop1] at hx1
     refine .skip ?_
     refine .seq ?_
     refine .block ?_
     refine .seq ?_
     obtain ⟨v2, hv2, hx1⟩ := bind_some hx1
     have e1 := nth_map D.str a1 n1 h1
     refine .rg Try.S [1, 4, 6, 8] ?_
     refine .rnx 4 (And.intro e1 hwn1) ?_
     refine .call (r := .tuple [.agg [.int .u8 v2.1.Kind, .int .i64 v2.1.Group, .int .i64 v2.1.Slot, .int .i64 v2.1.Ballot, .str v2.1.Value], .int .i64 v2.2]) rfl rfl rfl rfl rfl rfl (callP_towncrierref10_Read (a1[n1]) v2 hv2) ?_
     refine .rnx 6 (And.intro e1 hwn1) ?_
     refine .nil ⟨nofun, ?_⟩
     refine .seq ?_
     refine .seq ?_
     refine .plx Try.S hwn1 [1, 4, 6, 8, 9, 10] ?_
     refine .cond rfl rfl (fun hc4 => ?_) (fun hc4 => ?_)
     ·skip
      replace hx1 := ite_lc hx1 hc4
      refine .seq ?_
      refine .plx Try.S hwn1 [4, 10] ?_
      have hq := Option.some.inj hx1
      subst x1
      try dsimp only at h
      have hq := Option.some.inj h
      subst r
      refine .ret ⟨Try.Re_towncrierref11_Replay ((⟨[], []⟩ : TStable), v2.2), ?_, .inr rfl, retH [] ?_ ?_⟩
      ·skip
       refine Goes.boxs 0 _ [.imm 1 [] 12, .imm 5 [] 12] rfl (.cons (.nil12 _ _ 0 (by decide)) (.cons (.nil12 _ _ 0 (by decide)) (.refl _))) ?_
       exact .m [4, 5] [0] []
      ·exact rsi0
      ·rfl
     ·skip
      replace hx1 := ite_rc hx1 hc4
      refine .skip ?_
      refine .seq ?_
      obtain ⟨v3, hv3, hx1⟩ := bind_some hx1
      refine .rg Try.S [1, 4, 6, 8, 9] ?_
      refine .rnx 2 hwn1 ?_
      refine .call (r := .tuple [.agg [.imm 1 (v3.1.Logs.map dL_str) 12, .imm 5 (v3.1.Votes.map TSeen.d) 12], .int .i64 v3.2]) rfl rfl rfl rfl rfl rfl (callP_towncrierref11_Apply (⟨l3, l4⟩ : TStable) v2.1 v3 hv3) ?_
      refine .rnx 6 hwn1 ?_
      refine .nil ⟨nofun, ?_⟩
      refine .seq ?_
      refine .seq ?_
      refine .plx Try.S hwn1 [1, 4, 6, 8, 11, 12] ?_
      refine .cond rfl rfl (fun hc5 => ?_) (fun hc5 => ?_)
      ·skip
       replace hx1 := ite_lc hx1 hc5
       refine .seq ?_
       refine .plx Try.S hwn1 [4, 12] ?_
       have hq := Option.some.inj hx1
       subst x1
       try dsimp only at h
       have hq := Option.some.inj h
       subst r
       refine .ret ⟨Try.Re_towncrierref11_Replay ((⟨[], []⟩ : TStable), v3.2), ?_, .inr rfl, retH [] ?_ ?_⟩
       ·skip
        refine Goes.boxs 0 _ [.imm 1 [] 12, .imm 5 [] 12] rfl (.cons (.nil12 _ _ 0 (by decide)) (.cons (.nil12 _ _ 0 (by decide)) (.refl _))) ?_
        exact .m [4, 5] [0] []
       ·exact rsi0
       ·rfl
      ·skip
       replace hx1 := ite_rc hx1 hc5
       refine .skip ?_
       refine .plx Try.S hwn1 [1, 4, 6, 8, 11] ?_
       refine .plx Try.S hwn1 [1, 4, 6, 8] ?_
       refine ⟨(n1 + 1, _, _), ?_, ⟨by omega, hx1⟩, by dsimp only; omega⟩
       exact .m [1, 4, 6, 8] [0, 1] []
    ·skip
     have h2 : n1 = a1.length := by have h2b := of_decide_eq_false hc3; omega
     rw [List.drop_of_length_le (by omega), m_towncrierref11_Replay_loop1] at hx1
     refine .exit ?_
     refine ⟨_, ?_, (Option.some.inj hx1).symm⟩
     exact .m [4, 6] [0, 1] []
   ·skip
    rintro ⟨l1, l2⟩ hj1
    subst x1
    try dsimp only at h
    simp only [Try.St_towncrierref11_Replay_1]
    refine .seq ?_
    refine .pl Try.S [4, 6] ?_
    have hq := Option.some.inj h
    subst r
    refine .ret ⟨Try.Re_towncrierref11_Replay ((⟨l1, l2⟩ : TStable), 0), ?_, .inr rfl, retH [] ?_ ?_⟩
    ·skip
     exact .m [4, 5] [0] []
    ·exact rsi0
    ·rfl
theorem callP_towncrierref11_Replay (a0 : Int) (a1 : List (List UInt8)) (r : TStable × Int) (h : m_towncrierref11_Replay a0 a1 = some r) : CallP Try.prog 26 [.int .i64 a0, .imm 1 (a1.map D.str) 4] (.tuple [.agg [.imm 1 (r.1.Logs.map dL_str) 12, .imm 5 (r.1.Votes.map TSeen.d) 12], .int .i64 r.2]) :=
 callP_frz (frz_tup (frzs_cons (frz_agg (frzs_cons rfl (frzs_cons rfl frzs_nil))) (frzs_cons rfl frzs_nil))) (callH_towncrierref11_Replay a0 a1 r h)
theorem callP_towncrierlaw11_StableReplays (a0 : Int) (a1 : List (List UInt8)) (a2 : TStable) (r : Bool) (h : m_towncrierlaw11_StableReplays a0 a1 a2 = some r) : CallP Try.prog 5 [.int .i64 a0, .imm 1 (a1.map D.str) 4, .agg [.imm 1 (a2.Logs.map dL_str) 4, .imm 5 (a2.Votes.map TSeen.d) 4]] (.bool r) := by
 refine callP_intro Try.tmOk 8 Try.func5 rfl (by decide) rfl rfl (Nat.le_of_ble_eq_true rfl) ?_
 intro hwf
 unfold m_towncrierlaw11_StableReplays at h
 refine .seq ?_
 refine .pl Try.S [0, 1, 2] ?_
 refine .seq ?_
 refine .seq ?_
 obtain ⟨v1, hv1, h⟩ := bind_some h
 obtain ⟨v2, hv2, h⟩ := bind_some h
 refine .rg Try.S [0, 1, 5] ?_
 refine .rn 5 ?_
 refine .gcall (r := .bool v1) rfl rfl rfl rfl rfl (fun hg => ⟨[], [.imm 1 (a1.map D.str) 4], _, rfl, gd hg, rfl, (callP_towncrierref01_Great a1 v1 (ite_lc hv1 hg))⟩) ?_
 refine .rn 3 ?_
 refine .gcall (r := .bool v2) rfl rfl rfl rfl rfl (fun hg => ⟨[], [.agg [.imm 1 (a2.Logs.map dL_str) 4, .imm 5 (a2.Votes.map TSeen.d) 4]], _, rfl, gd hg, rfl, (callP_towncrierref11_Great a2 v2 (ite_lc hv2 hg))⟩) ?_
 refine .rn 1 ?_
 refine .nil ⟨nofun, ?_⟩
 refine .cond rfl rfl (fun hc1 => ?_) (fun hc1 => ?_)
 ·skip
  replace h := ite_lc h hc1
  refine .seq ?_
  refine .pl Try.S [] ?_
  have hq := Option.some.inj h
  subst r
  exact .ret ⟨.inr rfl, rsi⟩
 ·skip
  replace h := ite_rc h hc1
  refine .skip ?_
  refine .seq ?_
  obtain ⟨v3, hv3, h⟩ := bind_some h
  refine .rg Try.S [0, 1, 5] ?_
  refine .rn 1 ?_
  refine .call (r := .tuple [.agg [.imm 1 (v3.1.Logs.map dL_str) 12, .imm 5 (v3.1.Votes.map TSeen.d) 12], .int .i64 v3.2]) rfl rfl rfl rfl rfl rfl (callP_stable_New a0 v3 hv3) ?_
  refine .rn 6 ?_
  refine .nil ⟨nofun, ?_⟩
  refine .seq ?_
  obtain ⟨v4, hv4, h⟩ := bind_some h
  refine .rg Try.S [0, 1, 5, 7, 8] ?_
  refine .rn 1 ?_
  refine .call (r := .tuple [.agg [.imm 1 (v4.1.Logs.map dL_str) 12, .imm 5 (v4.1.Votes.map TSeen.d) 12], .int .i64 v4.2]) rfl rfl rfl rfl rfl rfl (callP_towncrierref11_New a0 v4 hv4) ?_
  refine .rn 6 ?_
  refine .nil ⟨nofun, ?_⟩
  refine .seq ?_
  obtain ⟨v5, hv5, h⟩ := bind_some h
  refine .rg Try.S [0, 1, 5, 7, 8, 9, 10] ?_
  refine .rn 2 ?_
  refine .call (r := .tuple [.agg [.imm 1 (v5.1.Logs.map dL_str) 12, .imm 5 (v5.1.Votes.map TSeen.d) 12], .int .i64 v5.2]) rfl rfl rfl rfl rfl rfl (callP_stable_Replay a0 a1 v5 hv5) ?_
  refine .rn 6 ?_
  refine .nil ⟨nofun, ?_⟩
  refine .seq ?_
  obtain ⟨v6, hv6, h⟩ := bind_some h
  refine .rg Try.S [0, 1, 5, 7, 8, 9, 10, 11, 12] ?_
  refine .rn 2 ?_
  refine .call (r := .tuple [.agg [.imm 1 (v6.1.Logs.map dL_str) 12, .imm 5 (v6.1.Votes.map TSeen.d) 12], .int .i64 v6.2]) rfl rfl rfl rfl rfl rfl (callP_towncrierref11_Replay a0 a1 v6 hv6) ?_
  refine .rn 6 ?_
  refine .nil ⟨nofun, ?_⟩
  refine .seq ?_
  obtain ⟨v7, hv7, h⟩ := bind_some h
  refine .rg Try.S [5, 7, 8, 9, 10, 11, 12, 13, 14] ?_
  refine .rn 1 ?_
  have hgt : m_towncrierref11_Great a2 = some false := by
   by_cases q : ((a1.length : Int) > 150) ∨ (v1 = true)
   ·exfalso
    rcases q with q | q <;> simp [q] at hc1
   ·rw [if_pos q] at hv2
    cases hvb : v2 with
    | false => rw [hvb] at hv2; exact hv2
    | true => exfalso; simp [hvb] at hc1
  refine .call (r := .agg [.imm 1 (v7.Logs.map dL_str) 12, .imm 5 (v7.Votes.map TSeen.d) 12]) rfl rfl rfl rfl rfl rfl (callP_towncrierref11_Twin a2 v7 (great_logs a2 hgt).1 hv7) ?_
  refine .rn 2 ?_
  refine .nil ⟨nofun, ?_⟩
  refine .seq ?_
  obtain ⟨v8, hv8, h⟩ := bind_some h
  refine .rg Try.S [5, 7, 8, 9, 10, 11, 12, 13, 14, 15] ?_
  refine .rn 1 ?_
  refine .call (r := .tuple [.imm 1 (v8.1.map D.str) 12, .int .i64 v8.2]) rfl rfl rfl rfl rfl rfl (callP_stable_Image v7 v8 hv8) ?_
  refine .rn 5 ?_
  refine .nil ⟨nofun, ?_⟩
  refine .seq ?_
  obtain ⟨v9, hv9, h⟩ := bind_some h
  refine .rg Try.S [5, 7, 8, 9, 10, 11, 12, 13, 14, 15, 16, 17] ?_
  refine .rn 1 ?_
  refine .call (r := .tuple [.imm 1 (v9.1.map D.str) 12, .int .i64 v9.2]) rfl rfl rfl rfl rfl rfl (callP_towncrierref11_Image a2 v9 hv9) ?_
  refine .rn 5 ?_
  refine .nil ⟨nofun, ?_⟩
  refine .seq ?_
  obtain ⟨v10, hv10, h⟩ := bind_some h
  obtain ⟨v11, hv11, h⟩ := bind_some h
  obtain ⟨v12, hv12, h⟩ := bind_some h
  obtain ⟨v13, hv13, h⟩ := bind_some h
  refine .rg Try.S [5, 7, 8, 9, 10, 11, 12, 13, 14, 15, 16, 17, 18, 19] ?_
  refine .rn 2 ?_
  refine .call (r := .bool v10) rfl rfl rfl rfl rfl rfl (callP_towncrierref11_Same v3.1 v4.1 v10 hv10) ?_
  refine .rn 8 ?_
  refine .gcall (r := .bool v11) rfl rfl rfl rfl rfl (fun hg => ⟨[], [.agg [.imm 1 (v5.1.Logs.map dL_str) 12, .imm 5 (v5.1.Votes.map TSeen.d) 12], .agg [.imm 1 (v6.1.Logs.map dL_str) 12, .imm 5 (v6.1.Votes.map TSeen.d) 12]], _, rfl, gd hg, rfl, (callP_towncrierref11_Same v5.1 v6.1 v11 (ite_lc hv11 hg))⟩) ?_
  refine .rn 6 ?_
  refine .rn 3 ?_
  refine .gcall (r := .bool v12) rfl rfl rfl rfl rfl (fun hg => ⟨[], [.imm 1 (v8.1.map D.str) 12, .imm 1 (v9.1.map D.str) 12], _, rfl, gd hg, rfl, (callP_towncrierref01_SameTexts v8.1 v9.1 v12 (ite_lc hv12 hg))⟩) ?_
  refine .rn 6 ?_
  refine .rn 3 ?_
  refine .gcall (r := .bool v13) rfl rfl rfl rfl rfl (fun hg => ⟨[], [.agg [.imm 1 (v7.Logs.map dL_str) 12, .imm 5 (v7.Votes.map TSeen.d) 12], .agg [.imm 1 (a2.Logs.map dL_str) 4, .imm 5 (a2.Votes.map TSeen.d) 4]], _, rfl, gd hg, rfl, (callP_towncrierref11_Same v7 a2 v13 (ite_lc hv13 hg))⟩) ?_
  refine .rn 2 ?_
  refine .nil ⟨nofun, ?_⟩
  have hq := Option.some.inj h
  subst r
  exact .ret ⟨.inr rfl, rsi⟩
end Go.Proofs
end

/- Texts of the proof. -/
import Derived.WideKeyArgs
import Derived.ChangeSame
import Derived.ChangeArms
import Derived.OpenShut
import Derived.Carry
import Derived.Test.YtkananhhhkkpkaaGreatRows
import Derived.WalkKit
import Derived.ProofKit
import Derived.Test.YtkananhhhkkpkaaGreatOrderPlaysPm
import Derived.Test.YtkananhhhkkpkaaGreatOrderPlaysPe
import Derived.Test.YtkananhhhkkpkaaGreatOrderPlaysPl
section
namespace Go.Proofs
open Go.Tm
set_option linter.unusedSimpArgs false
set_option linter.unusedVariables false
theorem gt_err (l : List Int) : (gt l).2.2 = 0 \/ gt l = (0, 0, 8) := by
 unfold gt
 rw [zes]
 rcases get_loop l 0 0 with ⟨u, h⟩ | ⟨a, b, h, _⟩
 ·rw [h]; exact .inr rfl
 ·rw [h]; exact .inl rfl
theorem gt_8 {l : List Int} (h : ¬ (gt l).2.2 = 0) : (gt l).2.2 = 8 := by
 rcases gt_err l with h1 | h1
 ·exact absurd h1 h
 ·rw [h1]
def gd (l : List Int) : List Int := l.drop (gt l).2.1.toNat
theorem gd_len (l : List Int) : (gd l).length <= l.length := by unfold gd; rw [List.length_drop]; omega
theorem zih {l : List Int} (h : Bytes l) (k : Nat) : Bytes (l.drop k) := fun x hx => h x (List.mem_of_mem_drop hx)
theorem take_eq (l : List Int) (b : Bool) (n e : Int) (h0 : 0 <= n) (h1 : n <= (l.length : Int)) : zbx ⟨l, b⟩ n e = some ⟨l.drop n.toNat, b && (e == 0)⟩ := by
 rw [zbx]
 have : min n (l.length : Int) = n := by omega
 simp only [this]
 rw [if_pos ⟨h0, h1⟩]
theorem num_r (l : List Int) (b : Bool) : zaa ⟨l, b⟩ = some ((gt l).1, ⟨gd l, b && ((gt l).2.2 == 0)⟩) := by
 obtain ⟨h1, h2⟩ := gt_ok l
 rw [zaa]
 simp only [h1, Option.bind_some]
 rw [take_eq l b _ _ h2.s0 h2.s1]
 rfl
def tt (l : List Int) : List UInt8 × Int × Int := (zed l).getD ([], 0, 8)
theorem tt_ok (l : List Int) (hl : l.length <= 1000000) : zed l = some (tt l) /\ 0 <= (tt l).2.1 /\ (tt l).2.1 <= (l.length : Int) := by
 obtain ⟨r, hr, h1, h2⟩ := gettext_tot l hl
 have : tt l = r := by rw [tt, hr]; rfl
 rw [this]
 exact ⟨hr, h1, h2⟩
def td (l : List Int) : List Int := l.drop (tt l).2.1.toNat
theorem td_len (l : List Int) : (td l).length <= l.length := by unfold td; rw [List.length_drop]; omega
theorem text_r (l : List Int) (hl : l.length <= 1000000) (b : Bool) : zc6 ⟨l, b⟩ = some ((tt l).1, ⟨td l, b && ((tt l).2.2 == 0)⟩) := by
 obtain ⟨h1, h2, h3⟩ := tt_ok l hl
 rw [zc6]
 simp only [h1, Option.bind_some]
 rw [take_eq l b _ _ h2 h3]
 rfl
def ii (l : List Int) (m : Int) : List Int × Int × Int := (zee l m).getD ([], 0, 8)
theorem ii_ok (l : List Int) (m : Int) (hl : l.length <= 1000000) : zee l m = some (ii l m) /\ 0 <= (ii l m).2.1 /\ (ii l m).2.1 <= (l.length : Int) := by
 obtain ⟨r, hr, h1, h2⟩ := getints_tot l hl m
 have : ii l m = r := by rw [ii, hr]; rfl
 rw [this]
 exact ⟨hr, h1, h2⟩
def idp (l : List Int) (m : Int) : List Int := l.drop (ii l m).2.1.toNat
theorem idp_len (l : List Int) (m : Int) : (idp l m).length <= l.length := by unfold idp; rw [List.length_drop]; omega
theorem ints_r (l : List Int) (hl : l.length <= 1000000) (b : Bool) (m : Int) : zc7 ⟨l, b⟩ m = some ((ii l m).1, ⟨idp l m, b && ((ii l m).2.2 == 0)⟩) := by
 obtain ⟨h1, h2, h3⟩ := ii_ok l m hl
 rw [zc7]
 simp only [h1, Option.bind_some]
 rw [take_eq l b _ _ h2 h3]
 rfl
theorem getInts_loop2 (l : List Int) (hb : Bytes l) (v : Int × Int × Int) : ∀ (fu : Nat) (at' : Int) (acc : List Int) (k : Int),
  zb9 l v fu at' acc k = (zbs l v fu acc at' k).map fun z => match z with | .inl r => .inl r | .inr (a, b) => .inr (b, a) := by
 intro fu
 induction fu with
 | zero => intro at' acc k; rfl
 | succ fu ih =>
  intro at' acc k
  rw [zb9, zbs]
  by_cases h1 : k < v.1
  ·by_cases h2 : 0 <= at' /\ at' <= (l.length : Int)
   ·rw [if_pos h1, if_pos h1, if_pos h2, if_pos h2, get2 _ (zih hb _), (gt_ok (l.drop at'.toNat)).1]
    simp only [Option.bind_some]
    by_cases h3 : (gt (l.drop at'.toNat)).2.2 = 0
    ·simp only [h3, not_true_eq_false, if_false]
     split
     ·exact ih _ _ _
     ·rfl
    ·simp only [h3, not_false_eq_true, if_true, gt_8 h3]; rfl
   ·rw [if_pos h1, if_pos h1, if_neg h2, if_neg h2]; rfl
  ·rw [if_neg h1, if_neg h1]; rfl
theorem getInts2 (l : List Int) (hb : Bytes l) (m : Int) : zdc l m = zee l m := by
 rw [zdc, zee, get2 l hb]
 split
 ·rfl
 cases hg : zes l with
 | none => rfl
 | some v =>
  simp only [Option.bind_some]
  split
  ·rfl
  ·rw [getInts_loop2 l hb]
   cases hz : zbs l v (v.1.toNat + 1) [] v.2.1 0 with
   | none => rfl
   | some z => cases z <;> rfl
def numsS : Nat -> List Int -> Option (List Int × List Int)
 | 0, l => some ([], l)
 | k + 1, l => if (gt l).2.2 = 0 then (numsS k (gd l)).map fun z => ((gt l).1 :: z.1, z.2) else none
theorem numbers_loop (k : Nat) (hk : k <= 1000) : ∀ (j fu n : Nat) (l acc : List Int), Bytes l -> j < fu -> n + j = k -> acc.length <= n ->
  zau (k : Int) fu l acc (n : Int) = some (match numsS j l with | some z => .inr (z.2, acc ++ z.1) | none => .inl ([], [], false)) := by
 intro j
 induction j with
 | zero =>
  intro fu n l acc hb hf hn ha
  obtain ⟨fu, rfl⟩ : ∃ f, fu = f + 1 := ⟨fu - 1, by omega⟩
  rw [zau, if_neg (by omega)]
  simp [numsS]
 | succ j ih =>
  intro fu n l acc hb hf hn ha
  obtain ⟨fu, rfl⟩ : ∃ f, fu = f + 1 := ⟨fu - 1, by omega⟩
  obtain ⟨g1, g2⟩ := gt_ok l
  rw [zau, if_pos (by omega), get2 l hb, g1]
  simp only [Option.bind_some]
  by_cases he : (gt l).2.2 = 0
  ·have hw : wr .i64 ((n : Int) + 1) = ((n + 1 : Nat) : Int) := by rw [wr_i (by omega) (by omega)]; omega
   rw [if_neg (by simpa using he), if_pos (by simp; omega), if_pos ⟨g2.s0, g2.s1⟩, hw]
   have := ih fu (n + 1) (gd l) (acc ++ [(gt l).1]) (zih hb _) (by omega) (by omega) (by simp; omega)
   rw [gd] at this
   rw [this, numsS, if_pos he]
   rw [gd]
   cases numsS j (List.drop (gt l).2.1.toNat l) <;> simp
  ·rw [if_pos he, numsS, if_neg he]
theorem zlh (k : Nat) (hk : k <= 1000) (l : List Int) (hb : Bytes l) : zad l (k : Int) = some (match numsS k l with | some z => (z.1, z.2, true) | none => ([], [], false)) := by
 rw [zad, Int.toNat_natCast]
 have := numbers_loop k hk k (k + 1) 0 l [] hb (by omega) (by omega) (by simp)
 rw [show ((0 : Nat) : Int) = 0 from rfl] at this
 rw [this]
 cases numsS k l <;> simp
theorem list_eq (l : List Int) (hb : Bytes l) (hl : l.length <= 1000000) (m : Int) : zdb l m = some (if (ii l m).2.2 = 0 then ((ii l m).1, idp l m, true) else ([], [], false)) := by
 obtain ⟨h1, h2, h3⟩ := ii_ok l m hl
 rw [zdb, getInts2 l hb, h1]
 simp only [Option.bind_some]
 by_cases he : (ii l m).2.2 = 0
 ·rw [if_neg (by simpa using he), if_pos ⟨h2, h3⟩, if_pos he]; rfl
 ·rw [if_pos he, if_neg he]
theorem texts_eq (l : List Int) (hb : Bytes l) (hl : l.length <= 1000000) : zdt l = some (if (tt l).2.2 = 0 then (if (tt (td l)).2.2 = 0 then ((tt l).1, (tt (td l)).1, td (td l), true) else ([], [], [], false)) else ([], [], [], false)) := by
 obtain ⟨h1, h2, h3⟩ := tt_ok l hl
 rw [zdt, getText2 l hb, h1]
 simp only [Option.bind_some]
 by_cases he : (tt l).2.2 = 0
 ·rw [if_neg (by simpa using he), if_pos ⟨h2, h3⟩, if_pos he]
  have hd : List.drop (tt l).2.1.toNat l = td l := rfl
  obtain ⟨k1, k2, k3⟩ := tt_ok (td l) (Nat.le_trans (td_len l) hl)
  rw [hd, getText2 (td l) (zih hb _), k1]
  simp only [Option.bind_some]
  have hlen : ((td l).length : Int) = (l.length : Int) - (tt l).2.1 := by unfold td; rw [List.length_drop]; omega
  by_cases he2 : (tt (td l)).2.2 = 0
  ·rw [if_neg (by simpa using he2), if_pos he2, wr_i (by omega) (by omega), if_pos ⟨by omega, by omega⟩]
   have : List.drop ((tt l).2.1 + (tt (td l)).2.1).toNat l = td (td l) := by
    conv => rhs; unfold td
    rw [List.drop_drop]
    congr 1
    show _ = (tt l).2.1.toNat + (tt (td l)).2.1.toNat
    omega
   rw [this]
  ·rw [if_pos he2, if_neg he2]
 ·rw [if_pos he, if_neg he]
end Go.Proofs
end
section
namespace Go.Proofs
open Go.Tm
set_option linter.unusedSimpArgs false
set_option linter.unusedVariables false
def zC : TCommand := ⟨0, ⟨0, [], 0, [], []⟩, 0, 0, [], 0, 0, 0⟩
def finR (c : TCommand) (rest : List Int) (ok : Bool) : TCommand × Int := if ok = true /\ rest = [] /\ zbg c = some 0 then (c, 0) else (zC, 8)
theorem finR_bad (c : TCommand) (rest : List Int) : finR c rest false = (zC, 8) := by simp [finR]
theorem finR_chk {c : TCommand} (h : ¬ zbg c = some 0) (rest : List Int) (b : Bool) : finR c rest b = (zC, 8) := by simp [finR, h]
theorem readP {s : List UInt8} (hs : ¬ (s.length : Int) > 1024) {c : TCommand} {r : Tcommand_reader} (h : zbt ⟨zft s, true⟩ = some (c, r)) : zc4 s = some (finR c r.fB r.fOk) := by
 rw [zc4, if_neg hs, h]
 simp only [Option.bind_some]
 obtain ⟨e, he, hi⟩ := cmd_iff c
 unfold finR
 rw [he]
 by_cases h1 : r.fOk = true
 ·by_cases h2 : r.fB = []
  ·by_cases h3 : e = 0
   ·subst h3; simp [h1, h2]
   ·simp [h1, h2, h3]; rfl
  ·have h0 := List.length_pos_iff.2 h2
   simp [h1, h2, h0]; rfl
 ·simp [h1]; rfl
theorem readR {s : List UInt8} (hs : ¬ (s.length : Int) > 1024) {c : TCommand} {rest : List Int} {b : Bool} (h : zd2 (zft s) = some (c, rest, b)) : zbn s = some (finR c rest b) := by
 rw [zbn, if_neg hs, h]
 simp only [Option.bind_some]
 obtain ⟨e, he, hi⟩ := cmd_iff c
 obtain ⟨v, hv, hvi⟩ := may12_iff c
 unfold finR
 rw [he, hv]
 by_cases h1 : b = true
 ·by_cases h2 : rest = []
  ·by_cases h3 : e = 0
   ·have : v = true := hvi.2 (hi.1 h3)
    subst h3; simp [h1, h2, this]
   ·have : v = false := by
     cases v with
     | false => rfl
     | true => exact absurd (hi.2 (hvi.1 rfl)) h3
    simp [h1, h2, h3, this]; rfl
  ·have h0 := List.length_pos_iff.2 h2
   simp [h1, h2, h0]; rfl
 ·simp [h1]; rfl
theorem wr8k {k : Int} (h0 : 0 <= k) (h1 : k <= 255) : wr .u8 k = k := wr_eq _ _ (by show (0 : Int) <= _; omega) (by show _ <= (255 : Int); omega)
theorem nums1 (l : List Int) : numsS 1 l = if (gt l).2.2 = 0 then some ([(gt l).1], gd l) else none := by
 simp only [numsS]; split <;> rfl
theorem parse_eq (l : List Int) (hb : Bytes l) (hl : l.length <= 1000000) : ∃ c r c' rest b, zbt ⟨l, true⟩ = some (c, r) /\ zd2 l = some (c', rest, b) /\ finR c r.fB r.fOk = finR c' rest b := by
 have n1 : ∀ l : List Int, Bytes l -> zad l 1 = some (if (gt l).2.2 = 0 then ([(gt l).1], gd l, true) else ([], [], false)) := by
  intro l hb
  have := zlh 1 (by omega) l hb
  rw [show ((1 : Nat) : Int) = 1 from rfl] at this
  rw [this, nums1]
  by_cases h : (gt l).2.2 = 0 <;> simp [h]
 have n2 : ∀ l : List Int, Bytes l -> zad l 2 = some (match numsS 2 l with | some z => (z.1, z.2, true) | none => ([], [], false)) := fun l hb => zlh 2 (by omega) l hb
 have n3 : ∀ l : List Int, Bytes l -> zad l 3 = some (match numsS 3 l with | some z => (z.1, z.2, true) | none => ([], [], false)) := fun l hb => zlh 3 (by omega) l hb
 have n4 : ∀ l : List Int, Bytes l -> zad l 4 = some (match numsS 4 l with | some z => (z.1, z.2, true) | none => ([], [], false)) := fun l hb => zlh 4 (by omega) l hb
 have hbd : ∀ (l : List Int), Bytes l -> Bytes (gd l) := fun l h => zih h _
 have hbt : ∀ (l : List Int), Bytes l -> Bytes (td l) := fun l h => zih h _
 have hbi : ∀ (l : List Int) (m : Int), Bytes l -> Bytes (idp l m) := fun l m h => zih h _
 rw [zbt, zd2, num_r, n1 l hb]
 simp only [Option.bind_some]
 have hb1 := hbd l hb
 have hl1 : (gd l).length <= 1000000 := Nat.le_trans (gd_len l) hl
 by_cases e0 : (gt l).2.2 = 0
 case neg =>
  -- nothing was read
  have hz : gt l = (0, 0, 8) := (gt_err l).resolve_left e0
  rw [if_neg e0]
  have k0 : wr .u8 (min (gt l).1 255) = 0 := by
   rw [hz]
   show wr .u8 (min (0 : Int) 255) = 0
   rw [show min (0 : Int) 255 = 0 by omega]
   exact wr8k (by omega) (by omega)
  simp only [k0]
  refine ⟨_, _, _, _, _, by simp; exact ⟨rfl, rfl⟩, by simp; exact ⟨rfl, rfl, rfl⟩, ?_⟩
  simp [finR, hz]
 have hk := (gt_ok l).2.n0 e0
 generalize hl2 : gd l = l2 at hb1 hl1
 generalize hkk : (gt l).1 = k at hk
 rw [if_pos e0]
 simp only [e0, beq_self_eq_true, Bool.and_self, List.getD_cons_zero, List.length_singleton, Nat.lt_add_one, not_true_eq_false, not_false_eq_true, true_implies, if_true, false_or]
 by_cases h6 : k > 6
 ·rw [if_pos h6]
  have hK : wr .u8 (min k 255) = min k 255 := wr8k (by omega) (by omega)
  have hx : ∀ (j : Int), j <= 6 -> ¬ min k 255 = j := by intro j hj; omega
  simp only [hK, hx 1 (by omega), hx 2 (by omega), hx 3 (by omega), hx 4 (by omega), hx 5 (by omega), if_false, Option.bind_some]
  have h66 : (min k 255 == 6) = false := by simp; omega
  simp only [h66, Bool.false_eq_true, if_false, Option.bind_some]
  refine ⟨_, _, _, _, _, rfl, rfl, ?_⟩
  rw [finR_bad]
  refine finR_chk ?_ _ _
  intro hc
  obtain ⟨e, he, hi⟩ := cmd_iff ⟨min k 255, ⟨0, [], 0, [], []⟩, 0, 0, [], 0, 0, 0⟩
  rw [he] at hc
  have := (hi.1 (Option.some.inj hc)).kind
  simp only at this
  omega
 rw [if_neg h6]
 have hK : wr .u8 (min k 255) = k := by rw [show min k 255 = k by omega]; exact wr8k (by omega) (by omega)
 have hK2 : wr .u8 k = k := wr8k (by omega) (by omega)
 rw [hK, hK2]
 by_cases k1 : k = 1
 ·subst k1
  simp only [if_true, num_r, n1 l2 hb1, Option.bind_some]
  have hb2 := hbd l2 hb1
  have hl2 : (gd l2).length <= 1000000 := Nat.le_trans (gd_len l2) hl1
  rw [ints_r _ hl2]
  simp only [Option.bind_some, num_r]
  have hb3 := hbi (gd l2) 4 hb2
  have hl3 : (idp (gd l2) 4).length <= 1000000 := Nat.le_trans (idp_len _ _) hl2
  have hb4 := hbd _ hb3
  have hl4 : (gd (idp (gd l2) 4)).length <= 1000000 := Nat.le_trans (gd_len _) hl3
  rw [text_r _ hl4]
  simp only [Option.bind_some]
  rw [text_r _ (Nat.le_trans (td_len _) hl4)]
  simp only [Option.bind_some]
  by_cases e1 : (gt l2).2.2 = 0
  ·simp only [e1, if_true, not_true_eq_false, not_false_eq_true, if_false, List.length_singleton, Nat.lt_add_one, List.getD_cons_zero, list_eq _ hb2 hl2, Option.bind_some]
   by_cases e2 : (ii (gd l2) 4).2.2 = 0
   ·simp only [e2, if_true, not_true_eq_false, not_false_eq_true, if_false, n1 _ hb3, Option.bind_some]
    by_cases e3 : (gt (idp (gd l2) 4)).2.2 = 0
    ·simp only [e3, if_true, not_true_eq_false, not_false_eq_true, if_false, List.length_singleton, Nat.lt_add_one, List.getD_cons_zero, texts_eq _ hb4 hl4, Option.bind_some]
     by_cases e4 : (tt (gd (idp (gd l2) 4))).2.2 = 0
     ·by_cases e5 : (tt (td (gd (idp (gd l2) 4)))).2.2 = 0
      ·refine ⟨_, _, _, _, _, rfl, by simp only [e4, e5, if_true]; rfl, ?_⟩
       simp [e4, e5]
      ·refine ⟨_, _, _, _, _, rfl, by simp only [e4, e5, if_true, if_false]; rfl, ?_⟩
       simp [finR, e4, e5]
     ·refine ⟨_, _, _, _, _, rfl, by simp only [e4, if_false]; rfl, ?_⟩
      simp [finR, e4]
    ·refine ⟨_, _, _, _, _, rfl, by simp [e3]; exact ⟨rfl, rfl, rfl⟩, ?_⟩
     simp [finR, e3]
   ·refine ⟨_, _, _, _, _, rfl, by simp [e2]; exact ⟨rfl, rfl, rfl⟩, ?_⟩
    simp [finR, e2]
  ·refine ⟨_, _, _, _, _, rfl, by simp [e1]; exact ⟨rfl, rfl, rfl⟩, ?_⟩
   simp [finR, e1]
 rw [if_neg k1, if_neg k1]
 by_cases k2 : k = 2
 ·subst k2
  simp only [if_true, num_r, n2 l2 hb1, Option.bind_some, numsS]
  by_cases e1 : (gt l2).2.2 = 0
  ·by_cases e2 : (gt (gd l2)).2.2 = 0
   ·refine ⟨_, _, _, _, _, rfl, by simp [e1, e2]; exact ⟨rfl, rfl, rfl⟩, ?_⟩
    simp [e1, e2]
   ·refine ⟨_, _, _, _, _, rfl, by simp [e1, e2]; exact ⟨rfl, rfl, rfl⟩, ?_⟩
    simp [finR, e1, e2]
  ·refine ⟨_, _, _, _, _, rfl, by simp [e1]; exact ⟨rfl, rfl, rfl⟩, ?_⟩
   simp [finR, e1]
 rw [if_neg k2, if_neg k2]
 by_cases k3 : k = 3
 ·subst k3
  simp only [if_true, ints_r _ hl1, list_eq _ hb1 hl1, Option.bind_some]
  by_cases e1 : (ii l2 6).2.2 = 0
  ·refine ⟨_, _, _, _, _, rfl, by simp [e1]; exact ⟨rfl, rfl, rfl⟩, ?_⟩
   simp [e1]
  ·refine ⟨_, _, _, _, _, rfl, by simp [e1]; exact ⟨rfl, rfl, rfl⟩, ?_⟩
   simp [finR, e1]
 rw [if_neg k3, if_neg k3]
 by_cases k4 : k = 4
 ·subst k4
  simp only [if_true, beq_self_eq_true, num_r, n4 l2 hb1, Option.bind_some, numsS]
  by_cases e1 : (gt l2).2.2 = 0
  ·by_cases e2 : (gt (gd l2)).2.2 = 0
   ·by_cases e3 : (gt (gd (gd l2))).2.2 = 0
    ·by_cases e4 : (gt (gd (gd (gd l2)))).2.2 = 0
     ·refine ⟨_, _, _, _, _, rfl, by simp [e1, e2, e3, e4]; exact ⟨rfl, rfl, rfl⟩, ?_⟩
      simp [e1, e2, e3, e4]
     ·refine ⟨_, _, _, _, _, rfl, by simp [e1, e2, e3, e4]; exact ⟨rfl, rfl, rfl⟩, ?_⟩
      simp [finR, e1, e2, e3, e4]
    ·refine ⟨_, _, _, _, _, rfl, by simp [e1, e2, e3]; exact ⟨rfl, rfl, rfl⟩, ?_⟩
     simp [finR, e1, e2, e3]
   ·refine ⟨_, _, _, _, _, rfl, by simp [e1, e2]; exact ⟨rfl, rfl, rfl⟩, ?_⟩
    simp [finR, e1, e2]
  ·refine ⟨_, _, _, _, _, rfl, by simp [e1]; exact ⟨rfl, rfl, rfl⟩, ?_⟩
   simp [finR, e1]
 rw [if_neg k4, if_neg k4]
 by_cases k56 : k = 5 \/ k = 6
 ·have hb5 : (Option.bind (if k = 5 then some (k == 5) else some (k == 6)) : (Bool -> Option (TCommand × List Int × Bool)) -> _) = fun f => f true := by
   funext f
   rcases k56 with rfl | rfl <;> rfl
  have hT : (if k = 5 then some (k == 5) else some (k == 6)) = some true := by rcases k56 with rfl | rfl <;> rfl
  simp only [hT, Option.bind_some, if_true, num_r, n3 l2 hb1, numsS, k4, if_false]
  by_cases e1 : (gt l2).2.2 = 0
  ·by_cases e2 : (gt (gd l2)).2.2 = 0
   ·by_cases e3 : (gt (gd (gd l2))).2.2 = 0
    ·refine ⟨_, _, _, _, _, rfl, by simp [e1, e2, e3]; exact ⟨rfl, rfl, rfl⟩, ?_⟩
     simp [e1, e2, e3]
    ·refine ⟨_, _, _, _, _, rfl, by simp [e1, e2, e3]; exact ⟨rfl, rfl, rfl⟩, ?_⟩
     simp [finR, e1, e2, e3]
   ·refine ⟨_, _, _, _, _, rfl, by simp [e1, e2]; exact ⟨rfl, rfl, rfl⟩, ?_⟩
    simp [finR, e1, e2]
  ·refine ⟨_, _, _, _, _, rfl, by simp [e1]; exact ⟨rfl, rfl, rfl⟩, ?_⟩
   simp [finR, e1]
 ·have h5 : ¬ k = 5 := fun h => k56 (.inl h)
  have h6' : ¬ k = 6 := fun h => k56 (.inr h)
  have hT : (if k = 5 then some (k == 5) else some (k == 6)) = some false := by simp [h5, h6']
  simp only [hT, Option.bind_some, Bool.false_eq_true, if_false]
  exact ⟨_, _, _, _, _, rfl, rfl, rfl⟩
theorem read2 (s : List UInt8) : zbn s = zc4 s := by
 by_cases hs : (s.length : Int) > 1024
 ·rw [zbn, zc4, if_pos hs, if_pos hs]
 ·obtain ⟨c, r, c', rest, b, h1, h2, h3⟩ := parse_eq (zft s) (ofB_bytes s) (by rw [ofB_len]; omega)
  rw [readP hs h1, readR hs h2, h3]
end Go.Proofs
end
section
namespace Go.Proofs
open Go.Tm
set_option linter.unusedSimpArgs false
set_option linter.unusedVariables false
theorem J.del {c : Int} {W : List TWait} {D : List TStamp} (hj : J c W D) {y : TWait} {l : List TWait} (hW : W = y :: l) : ∃ (K : Nat) (hk : K < W.length), plc (minW y l).Message.Id W = K /\ W[K] = minW y l /\ J c (W.eraseIdx K) (D ++ [stW (minW y l)]) := by
 have hmem : minW y l ∈ W := by
  rw [hW]
  rcases minW_mem l y with hh | hh
  ·rw [hh]; simp
  ·exact List.mem_cons_of_mem _ hh
 obtain ⟨hk, he⟩ := (plc_at (minW y l).Message.Id W hj.w.2).1 ⟨_, hmem, rfl⟩
 generalize hK : plc (minW y l).Message.Id W = K at hk he
 have hat : W[K] = minW y l := at_id hj.w.2 (List.getElem_mem hk) hmem he
 have hv := hj.w.1 _ hmem
 have hsub : ∀ w ∈ W.eraseIdx K, w ∈ W := fun w hw => List.mem_of_mem_eraseIdx hw
 have hne : ∀ w ∈ W.eraseIdx K, w.Message.Id ≠ (minW y l).Message.Id := by
  intro w hw hid
  obtain ⟨i, hi, hik, rfl⟩ := List.mem_eraseIdx_iff_getElem.1 hw
  have e2 := at_id hj.w.2 (List.getElem_mem hi) hmem hid
  rw [<- hat] at hid
  rcases Nat.lt_or_gt_of_ne hik with hh | hh
  ·have := List.pairwise_iff_getElem.1 hj.w.2 i K hi hk hh; omega
  ·have := List.pairwise_iff_getElem.1 hj.w.2 K i hk hi hh; omega
 have hle : ∀ w ∈ W, ¬ ltS (stW w) (stW (minW y l)) := by
  intro w hw
  rw [hW] at hw
  rcases List.mem_cons.1 hw with rfl | hw
  ·exact (minW_le l _).1
  ·exact (minW_le l y).2 w hw
 have hid := hv.1.id
 have hJ : J c (W.eraseIdx K) (D ++ [stW (minW y l)]) := by
  refine ⟨hj.c1, (hj.d.snoc _).2 ⟨⟨⟨?_, ?_, hid.1, ?_⟩, hv.2.1, hv.2.2.1⟩, hv.2.2.2.2, fun hm => ?_⟩, fun w hw => ?_, hj.w.2.sublist (List.eraseIdx_sublist _ _)⟩
  ·have := hv.2.1; show 0 <= (minW y l).Time; omega
  ·have := hv.2.2.1; have := hj.c1; show (minW y l).Time <= 1073741824; omega
  ·have := hid.2; show (minW y l).Message.Id < 6291456; omega
  ·obtain ⟨x, hx, he2⟩ := List.mem_map.1 hm
   exact hv.2.2.2.1 x hx he2
  ·have hw1 := hj.w.1 w (hsub w hw)
   refine ⟨hw1.1, hw1.2.1, hw1.2.2.1, fun x hx => ?_, fun x hx => ?_⟩
   ·rcases List.mem_append.1 hx with hx | hx
    ·exact hw1.2.2.2.1 x hx
    ·simp at hx; subst hx; exact fun e => hne w hw e.symm
   ·simp at hx; subst hx
    exact ltS_total (fun e => hne w hw e.symm) (hle w (hsub w hw))
 exact ⟨K, hk, rfl, hat, hJ⟩
theorem less14_eq (a b : TStamp) : zdz a b = some (decide (ltS a b)) := by
 rw [zdz]
 congr 1
 rw [Bool.eq_iff_iff]
 simp only [Bool.or_eq_true, Bool.and_eq_true, decide_eq_true_eq, beq_iff_eq]
 exact Iff.rfl
theorem getW {W : List TWait} {k : Nat} (h : k < W.length) : W.getD k default = W[k] := by simp [List.getD, List.getElem?_eq_getElem h]
theorem waits_loop (id : Int) : ∀ (l : List TWait) (n : Nat), (∃ (k : Nat) (h : k < l.length), l[k].Message.Id = id /\ zb1 id l n = some (.inl ((n + k : Nat) : Int))) \/ ((∀ w ∈ l, w.Message.Id ≠ id) /\ zb1 id l n = some (.inr ())) := by
 intro l
 induction l with
 | nil => intro n; exact .inr ⟨by simp, rfl⟩
 | cons y l ih =>
  intro n
  rw [zb1]
  by_cases h : y.Message.Id = id
  ·rw [if_pos h]; exact .inl ⟨0, by simp, h, rfl⟩
  ·rw [if_neg h]
   rcases ih (n + 1) with ⟨k, hk, h1, h2⟩ | ⟨h1, h2⟩
   ·exact .inl ⟨k + 1, by simp; omega, by simpa using h1, by rw [h2]; congr 3; omega⟩
   ·refine .inr ⟨fun w hw => ?_, h2⟩
    rcases List.mem_cons.1 hw with rfl | hw
    ·exact h
    ·exact h1 w hw
theorem waits_eq (s : TSkeen) (id : Int) (hu : IdsUp s.Waits) : zc1 s id = some (if (∃ w ∈ s.Waits, w.Message.Id = id) then ((plc id s.Waits : Nat) : Int) else -1) := by
 rw [zc1]
 rcases waits_loop id s.Waits 0 with ⟨k, hk, h1, h2⟩ | ⟨h1, h2⟩
 ·rw [h2, if_pos ⟨_, List.getElem_mem hk, h1⟩]
  obtain ⟨hp, he⟩ := (plc_at id s.Waits hu).1 ⟨_, List.getElem_mem hk, h1⟩
  have : k = plc id s.Waits := by
   rcases Nat.lt_trichotomy k (plc id s.Waits) with hh | hh | hh
   ·have := List.pairwise_iff_getElem.1 hu k _ hk hp hh; omega
   ·exact hh
   ·have := List.pairwise_iff_getElem.1 hu _ k hp hk hh; omega
  subst this
  simp
 ·rw [h2, if_neg (by rintro ⟨w, hw, he⟩; exact h1 w hw he)]; rfl
theorem rdone_eq (s : TSkeen) (id : Int) : zda s id = some (s.Done.any fun x => x.Id == id) := by
 rw [zda]
 have : ∀ l : List TStamp, zbo id l = some (if (l.any fun x => x.Id == id) = true then .inl true else .inr ()) := by
  intro l
  induction l with
  | nil => rfl
  | cons y l ih =>
   rw [zbo]
   by_cases h : y.Id = id
   ·rw [if_pos h]; simp [h]
   ·rw [if_neg h, ih]; simp [h]
 rw [this]
 cases s.Done.any fun x => x.Id == id <;> rfl
theorem with1 (W : List TWait) (w : TWait) (hW : W.length <= 1000) : ∀ (fu k : Nat) (acc : List TWait), W.length - k < fu -> acc.length <= 2000 + k -> k <= W.length -> zbc W w fu acc (k : Int) = some (acc ++ (W.drop k).filter fun x => decide (x.Message.Id < w.Message.Id)) := by
 intro fu
 induction fu with
 | zero => intro k acc h; omega
 | succ fu ih =>
  intro k acc h ha hk
  rw [zbc]
  by_cases hlt : k < W.length
  ·have hw : wr .i64 ((k : Int) + 1) = ((k + 1 : Nat) : Int) := by rw [wr_i (by omega) (by omega)]; omega
   rw [if_pos (by omega), if_pos (by omega), Int.toNat_natCast, getW hlt, hw, List.drop_eq_getElem_cons hlt, List.filter_cons]
   by_cases hc : W[k].Message.Id < w.Message.Id
   ·rw [if_pos hc, if_pos (by omega), if_pos (by simp; omega), if_pos (by simpa using hc)]
    simp only [Option.bind_some]
    rw [ih (k + 1) _ (by omega) (by simp; omega) (by omega)]
    simp
   ·rw [if_neg hc, if_neg (by simpa using hc)]
    simp only [Option.bind_some]
    exact ih (k + 1) _ (by omega) (by omega) (by omega)
  ·rw [if_neg (by omega), List.drop_of_length_le (by omega)]
   simp
theorem with2 (W : List TWait) (w : TWait) (hW : W.length <= 1000) : ∀ (fu k : Nat) (acc : List TWait), W.length - k < fu -> acc.length <= 4000 + k -> k <= W.length -> zbb W w fu acc (k : Int) = some (acc ++ (W.drop k).filter fun x => decide (x.Message.Id > w.Message.Id)) := by
 intro fu
 induction fu with
 | zero => intro k acc h; omega
 | succ fu ih =>
  intro k acc h ha hk
  rw [zbb]
  by_cases hlt : k < W.length
  ·have hw : wr .i64 ((k : Int) + 1) = ((k + 1 : Nat) : Int) := by rw [wr_i (by omega) (by omega)]; omega
   rw [if_pos (by omega), if_pos (by omega), Int.toNat_natCast, getW hlt, hw, List.drop_eq_getElem_cons hlt, List.filter_cons]
   by_cases hc : W[k].Message.Id > w.Message.Id
   ·rw [if_pos hc, if_pos (by omega), if_pos (by simp; omega), if_pos (by simpa using hc)]
    simp only [Option.bind_some]
    rw [ih (k + 1) _ (by omega) (by simp; omega) (by omega)]
    simp
   ·rw [if_neg hc, if_neg (by simpa using hc)]
    simp only [Option.bind_some]
    exact ih (k + 1) _ (by omega) (by omega) (by omega)
  ·rw [if_neg (by omega), List.drop_of_length_le (by omega)]
   simp
theorem plc_zero {id : Int} {l : List TWait} (h : ∀ x ∈ l, id < x.Message.Id) : plc id l = 0 := by
 cases l with
 | nil => rfl
 | cons y l => rw [plc, if_neg]; have := h y (List.mem_cons_self ..); omega
theorem cut_up (id : Int) : ∀ (l : List TWait), IdsUp l -> (∀ x ∈ l, x.Message.Id ≠ id) -> (l.filter fun x => decide (x.Message.Id < id)) = l.take (plc id l) /\ (l.filter fun x => decide (x.Message.Id > id)) = l.drop (plc id l) := by
 intro l
 induction l with
 | nil => intro _ _; exact ⟨rfl, rfl⟩
 | cons y l ih =>
  intro hu hn
  have hu' := List.pairwise_cons.1 hu
  obtain ⟨h1, h2⟩ := ih hu'.2 fun x hx => hn x (List.mem_cons_of_mem _ hx)
  rw [plc]
  by_cases h : y.Message.Id < id
  ·rw [if_pos h]
   have h' : ¬ id < y.Message.Id := by omega
   simp [h, h', h1, h2]
  ·have hy := hn y (List.mem_cons_self ..)
   have hz : plc id l = 0 := plc_zero fun x hx => by have := hu'.1 x hx; omega
   rw [if_neg h]
   rw [hz] at h1 h2
   have h' : id < y.Message.Id := by omega
   rw [List.filter_cons, List.filter_cons, if_neg (by simpa using h), if_pos (by simpa using h'), h1, h2]
   simp
theorem with_eq (W : List TWait) (w : TWait) (hW : W.length <= 1000) (hu : IdsUp W) (hn : ∀ x ∈ W, x.Message.Id ≠ w.Message.Id) : zde W w = some (W.take (plc w.Message.Id W) ++ w :: W.drop (plc w.Message.Id W)) := by
 obtain ⟨h1, h2⟩ := cut_up w.Message.Id W hu hn
 have e1 := with1 W w hW (W.length + 1) 0 [] (by omega) (by simp) (by omega)
 rw [show ((0 : Nat) : Int) = 0 from rfl, List.drop_zero, h1, List.nil_append] at e1
 have e2 := with2 W w hW (W.length + 1) 0 (W.take (plc w.Message.Id W) ++ [w]) (by omega) (by simp; omega) (by omega)
 rw [show ((0 : Nat) : Int) = 0 from rfl, List.drop_zero, h2] at e2
 rw [zde, e1]
 simp only [Option.bind_some]
 rw [if_pos (by simp; omega), e2]
 simp
theorem without1 (W : List TWait) (k : Nat) (hW : W.length <= 1000) : ∀ (fu i : Nat) (acc : List TWait), W.length - i < fu -> acc.length <= 2000 + i -> i <= W.length -> zaw W (k : Int) fu acc (i : Int) = some (acc ++ if i <= k then (W.drop i).eraseIdx (k - i) else W.drop i) := by
 intro fu
 induction fu with
 | zero => intro i acc h; omega
 | succ fu ih =>
  intro i acc h ha hi
  rw [zaw]
  by_cases hlt : i < W.length
  ·have hw : wr .i64 ((i : Int) + 1) = ((i + 1 : Nat) : Int) := by rw [wr_i (by omega) (by omega)]; omega
   rw [if_pos (by omega), hw, List.drop_eq_getElem_cons hlt]
   by_cases hc : i = k
   ·subst hc
    rw [if_neg (by omega)]
    simp only [Option.bind_some]
    rw [ih (i + 1) _ (by omega) (by omega) (by omega), if_neg (by omega)]
    simp
   ·rw [if_pos (by omega), if_pos (by omega), Int.toNat_natCast, getW hlt, if_pos (by simp; omega)]
    simp only [Option.bind_some]
    rw [ih (i + 1) _ (by omega) (by simp; omega) (by omega)]
    by_cases hik : i <= k
    ·rw [if_pos (by omega), if_pos hik]
     obtain ⟨d, hd⟩ : ∃ d, k - i = d + 1 := ⟨k - i - 1, by omega⟩
     rw [hd, show k - (i + 1) = d by omega, List.eraseIdx_cons_succ, List.append_assoc, List.singleton_append]
    ·rw [if_neg (by omega), if_neg hik]
     simp
  ·rw [if_neg (by omega), List.drop_of_length_le (by omega)]
   simp
theorem without_eq (W : List TWait) (k : Nat) (hW : W.length <= 1000) : zct W (k : Int) = some (W.eraseIdx k) := by
 have := without1 W k hW (W.length + 1) 0 [] (by omega) (by simp) (by omega)
 rw [show ((0 : Nat) : Int) = 0 from rfl] at this
 rw [zct, this]
 simp
theorem least1 (W : List TWait) (hW : W.length <= 1000) : ∀ (fu i a : Nat) (ha : a < W.length), W.length - i < fu -> i <= W.length -> ∃ (j : Nat) (hj : j < W.length), zb2 W fu (a : Int) (i : Int) = some (j : Int) /\ W[j] = minW W[a] (W.drop i) := by
 intro fu
 induction fu with
 | zero => intro i a ha h; omega
 | succ fu ih =>
  intro i a ha h hi
  rw [zb2]
  by_cases hlt : i < W.length
  ·have hw : wr .i64 ((i : Int) + 1) = ((i + 1 : Nat) : Int) := by rw [wr_i (by omega) (by omega)]; omega
   have e1 : zc2 W[i] = some (stW W[i]) := rfl
   have e2 : zc2 W[a] = some (stW W[a]) := rfl
   rw [if_pos (by omega), if_pos (by omega), Int.toNat_natCast, Int.toNat_natCast, getW hlt, getW ha, e1, e2]
   simp only [Option.bind_some]
   rw [if_pos (by omega), less14_eq, hw, List.drop_eq_getElem_cons hlt, minW]
   simp only [Option.bind_some]
   by_cases hc : ltS (stW W[i]) (stW W[a])
   ·rw [if_pos (by simpa using hc), if_pos hc]
    simp only [Option.bind_some]
    exact ih (i + 1) i hlt (by omega) (by omega)
   ·rw [if_neg (by simpa using hc), if_neg hc]
    simp only [Option.bind_some]
    exact ih (i + 1) a ha (by omega) (by omega)
  ·rw [if_neg (by omega), List.drop_of_length_le (by omega)]
   exact ⟨a, ha, rfl, rfl⟩
theorem least_eq (W : List TWait) (hW : W.length <= 1000) {y : TWait} {l : List TWait} (h : W = y :: l) : ∃ (j : Nat) (hj : j < W.length), zds W = some (j : Int) /\ W[j] = minW y l := by
 have h0 : 0 < W.length := by rw [h]; simp
 obtain ⟨j, hj, h1, h2⟩ := least1 W hW (W.length + 1) 1 0 h0 (by omega) (by omega)
 refine ⟨j, hj, ?_, ?_⟩
 ·rw [zds]
  have h1 : zb2 W (W.length + 1) 0 1 = _ := h1
  rw [h1]; rfl
 ·rw [h2]; subst h; rfl
end Go.Proofs
end
section
namespace Go.Proofs
open Go.Tm
set_option linter.unusedSimpArgs false
set_option linter.unusedVariables false
theorem idx_up {W : List TWait} (hu : IdsUp W) {i j : Nat} (hi : i < W.length) (hj : j < W.length) (h : W[i] = W[j]) : i = j := by
 rcases Nat.lt_trichotomy i j with hh | hh | hh
 ·have := List.pairwise_iff_getElem.1 hu i j hi hj hh; rw [h] at this; omega
 ·exact hh
 ·have := List.pairwise_iff_getElem.1 hu j i hj hi hh; rw [h] at this; omega
theorem del2 (c0 : Tskeen_clock) (c : Int) : ∀ (fu fu' : Nat) (W : List TWait) (D : List TStamp) (M : List TMessage), W.length < fu -> W.length < fu' -> J c W D -> W.length + D.length <= 1000 -> M.length + W.length <= 1000 ->
  zay fu' W D M = zao c0 fu W D M := by
 intro fu
 induction fu with
 | zero => intro fu' W D M h; omega
 | succ fu ih =>
  intro fu' W D M h h' hj h1 h2
  obtain ⟨fu', rfl⟩ : ∃ f, fu' = f + 1 := ⟨fu' - 1, by omega⟩
  rw [zao, zay]
  cases hW : W with
  | nil => simp
  | cons y l =>
   have hpos : ((y :: l).length : Int) > 0 := by simp only [List.length_cons]; omega
   obtain ⟨j, hjl, e1, e2⟩ := least_eq W (by omega) hW
   obtain ⟨K, hk, e3, e4, hJ⟩ := hj.del hW
   have hjk : j = K := idx_up hj.w.2 hjl hk (by rw [e2, e4])
   subst hjk
   have hmem : minW y l ∈ W := by rw [<- e4]; exact List.getElem_mem hk
   rw [if_pos hpos, if_pos hpos, minw_eq y l (by rw [hW] at h1; simp at h1; omega)]
   rw [hW] at e1
   rw [e1]
   simp only [Option.bind_some]
   have hg : (y :: l).getD j default = minW y l := by rw [<- hW, getW hjl, e4]
   have hlt : (j : Int) < ((y :: l).length : Int) := by rw [<- hW]; omega
   rw [if_pos ⟨by omega, hlt⟩, Int.toNat_natCast, hg]
   by_cases hf : (minW y l).Final = true
   ·simp only [hf, not_true_eq_false, if_false]
    rw [if_pos ⟨by omega, hlt⟩]
    have hfd := find_eq ⟨⟨c0.Skeen.Clock, W, D⟩⟩ (minW y l).Message.Id (by show W.length < 1000000; omega) hj.w.2 hj.ids (hj.ids _ hmem)
    have e5 : zc2 (minW y l) = some (stW (minW y l)) := rfl
    have e6 : zep (minW y l) = some (stW (minW y l)) := rfl
    rw [<- hW, hfd, e5, e6]
    simp only [Option.bind_some, e3, Int.toNat_natCast]
    have hlt' : (j : Int) < (W.length : Int) := by omega
    have hM : M.length + W.length <= 1000 := h2
    rw [if_pos (by simp; omega), if_pos ⟨by omega, hlt'⟩, if_pos (by simp; omega), without_eq W j (by omega)]
    simp only [Option.bind_some]
    rw [if_pos ⟨by omega, hlt'⟩, if_pos (by omega), if_pos (by simp; omega), if_pos (by simp; omega)]
    have hlen : (W.eraseIdx j).length = W.length - 1 := List.length_eraseIdx_of_lt hk
    exact ih fu' _ _ _ (by omega) (by omega) hJ (by simp; omega) (by simp; omega)
   ·simp only [hf, Bool.false_eq_true, not_false_eq_true, if_true]
theorem assign_eq2 (s : TSkeen) (g : Int) (m : TMessage) (hl : s.Waits.length <= 200) (hc0 : 0 <= s.Clock) (hj : J s.Clock s.Waits s.Done) (hm : MsgOk m) :
  (((∃ w ∈ s.Waits, w.Message.Id = m.Id) \/ (s.Done.any fun x => x.Id == m.Id) = true \/ g ∉ m.Groups) /\ zak ⟨s⟩ g m = some (0, ⟨s⟩)) \/
  ((¬ ∃ w ∈ s.Waits, w.Message.Id = m.Id) /\ (s.Done.any fun x => x.Id == m.Id) = false /\ g ∈ m.Groups /\
   (((s.Clock = 1073741824 \/ (s.Waits.length : Int) = 200) /\ zak ⟨s⟩ g m = some (9, ⟨s⟩)) \/
    (¬ (s.Clock = 1073741824 \/ (s.Waits.length : Int) = 200) /\ zak ⟨s⟩ g m = some (0, ⟨⟨s.Clock + 1, s.Waits.take (plc m.Id s.Waits) ++ ⟨m, s.Clock + 1, false⟩ :: s.Waits.drop (plc m.Id s.Waits), s.Done⟩⟩)))) := by
 rw [zak, find_eq ⟨s⟩ m.Id (by show s.Waits.length < 1000000; omega) hj.w.2 hj.ids hm.id, done_eq]
 simp only [Option.bind_some]
 by_cases hx : ∃ w ∈ s.Waits, w.Message.Id = m.Id
 ·left
  simp only [hx, decide_true, not_true_eq_false, if_false, true_or, Option.bind_some, if_true, true_and]
 ·simp only [hx, decide_false, Bool.false_eq_true, not_false_eq_true, if_true, false_or, Option.bind_some, true_and]
  cases hd : s.Done.any fun x => x.Id == m.Id with
  | true =>
   left
   simp only [not_true_eq_false, if_false, Option.bind_some, true_or, if_true, true_and]
  | false =>
   have hg := contains_eq m.Groups g
   simp only [Bool.false_eq_true, not_false_eq_true, if_true, false_or, Option.bind_some, hg, true_and]
   by_cases hgm : g ∈ m.Groups
   ·right
    simp only [hgm, decide_true, not_true_eq_false, if_false, true_and]
    by_cases hfull : s.Clock = 1073741824 \/ (s.Waits.length : Int) = 200
    ·left; rw [if_pos hfull]; exact ⟨hfull, rfl⟩
    ·right
     have hc1 := hj.c1
     refine ⟨hfull, ?_⟩
     rw [if_neg hfull, clone_int _ (by have := hm.groups; omega)]
     simp only [Option.bind_some]
     have hple := plc_le m.Id s.Waits
     rw [if_pos (by omega), if_pos (by omega), wr_eq _ _ (by show (-9223372036854775808 : Int) <= _; omega) (by show _ <= (9223372036854775807 : Int); omega), Int.toNat_natCast]
   ·left
    simp only [hgm, decide_false, Bool.false_eq_true, not_false_eq_true, if_true, true_and]
theorem put_pre {β : Type} (s : TSkeen) (g : Int) (c : TCommand) (hu : IdsUp s.Waits) (A B : Option β) :
  (Option.bind (if c.Kind = 1 then zc1 s c.Message.Id else some default) fun v1 =>
   Option.bind (if (c.Kind = 1) /\ (v1 < 0) then zda s c.Message.Id else some default) fun v2 =>
   Option.bind (if ((c.Kind = 1) /\ (v1 < 0)) /\ (¬ (v2 = true)) then zdk c.Message.Groups g else some default) fun v3 =>
   if (((c.Kind = 1) /\ (v1 < 0)) /\ (¬ (v2 = true))) /\ (v3 = true) then A else B) =
  if c.Kind = 1 /\ (¬ ∃ w ∈ s.Waits, w.Message.Id = c.Message.Id) /\ (s.Done.any fun x => x.Id == c.Message.Id) = false /\ g ∈ c.Message.Groups then A else B := by
 by_cases k1 : c.Kind = 1
 ·rw [if_pos k1, waits_eq s _ hu]
  simp only [Option.bind_some, k1, true_and, rdone_eq, hasR_eq]
  by_cases hx : ∃ w ∈ s.Waits, w.Message.Id = c.Message.Id
  ·rw [if_pos hx]
   have : ¬ (((plc c.Message.Id s.Waits : Nat) : Int) < 0) := by omega
   simp [this, hx]
  ·rw [if_neg hx]
   simp only [show ((-1 : Int) < 0) by omega, if_true, Option.bind_some, true_and]
   cases hd : s.Done.any fun x => x.Id == c.Message.Id with
   | true => simp
   | false =>
    simp only [Bool.false_eq_true, not_false_eq_true, if_true, Option.bind_some, true_and, hx]
    by_cases hgm : g ∈ c.Message.Groups <;> simp [hgm]
 ·simp [k1]
theorem put_mid {β : Type} (c : TCommand) (D : List TStamp) (n : Int) (W : List TWait) (hu : IdsUp W) (f : Int × List TWait -> Option β) :
  (Option.bind (zc1 (⟨n, W, D⟩ : TSkeen) c.Id) fun v6 =>
   Option.bind (α := Int × (List TWait)) (if ((c.Kind = 2) /\ (v6 >= 0)) -> (0 <= v6 /\ v6 < (W.length : Int)) then
   if (((c.Kind = 2) /\ (v6 >= 0)) /\ (¬ ((W.getD v6.toNat default).Final = true))) -> (0 <= v6 /\ v6 < (W.length : Int)) then
   if (((c.Kind = 2) /\ (v6 >= 0)) /\ (¬ ((W.getD v6.toNat default).Final = true))) /\ (c.Time >= (W.getD v6.toNat default).Time) then
   if (0 <= v6 /\ v6 < (W.length : Int)) then
   if (0 <= v6 /\ v6 < ((W.set v6.toNat (⟨(W.getD v6.toNat default).Message, c.Time, (W.getD v6.toNat default).Final⟩ : TWait)).length : Int)) then
   some ((max n c.Time), ((W.set v6.toNat (⟨(W.getD v6.toNat default).Message, c.Time, (W.getD v6.toNat default).Final⟩ : TWait)).set v6.toNat (⟨((W.set v6.toNat (⟨(W.getD v6.toNat default).Message, c.Time, (W.getD v6.toNat default).Final⟩ : TWait)).getD v6.toNat default).Message, ((W.set v6.toNat (⟨(W.getD v6.toNat default).Message, c.Time, (W.getD v6.toNat default).Final⟩ : TWait)).getD v6.toNat default).Time, true⟩ : TWait)))
   else none
   else none
   else
   some (n, W)
   else none
   else none) f) =
  f (if c.Kind = 2 /\ ∃ (k : Nat) (hk : k < W.length), W[k].Message.Id = c.Id /\ W[k].Final = false /\ W[k].Time <= c.Time then
   (max n c.Time, W.set (plc c.Id W) ⟨(W.getD (plc c.Id W) default).Message, c.Time, true⟩) else (n, W)) := by
 rw [waits_eq ⟨n, W, D⟩ c.Id hu]
 simp only [Option.bind_some]
 by_cases k2 : c.Kind = 2
 ·simp only [k2, true_and]
  by_cases hx : ∃ w ∈ W, w.Message.Id = c.Id
  ·obtain ⟨hk, he⟩ := (plc_at c.Id W hu).1 hx
   rw [if_pos hx]
   simp only [Int.toNat_natCast, getW hk]
   have b1 : (0 : Int) <= ((plc c.Id W : Nat) : Int) /\ ((plc c.Id W : Nat) : Int) < (W.length : Int) := by omega
   rw [if_pos (fun _ => b1), if_pos (fun _ => b1)]
   have huniq : (∃ (k : Nat) (hk : k < W.length), W[k].Message.Id = c.Id /\ W[k].Final = false /\ W[k].Time <= c.Time) ↔ (W[plc c.Id W].Final = false /\ W[plc c.Id W].Time <= c.Time) := by
    constructor
    ·rintro ⟨k, hk', h1, h2, h3⟩
     have : W[k] = W[plc c.Id W] := at_id hu (List.getElem_mem hk') (List.getElem_mem hk) (h1.trans he.symm)
     rw [<- this]; exact ⟨h2, h3⟩
    ·intro h; exact ⟨_, hk, he, h⟩
   simp only [huniq]
   by_cases hc : W[plc c.Id W].Final = false /\ W[plc c.Id W].Time <= c.Time
   ·rw [if_pos ⟨⟨by omega, by simp [hc.1]⟩, by omega⟩, if_pos b1, if_pos (by simp only [List.length_set]; exact b1), if_pos hc]
    simp only [Option.bind_some, List.set_set]
    congr 2
    simp [List.getD, hk]
   ·rw [if_neg, if_neg hc]
    ·rfl
    ·rintro ⟨⟨_, h1⟩, h2⟩
     refine hc ⟨by simpa using h1, by omega⟩
  ·rw [if_neg hx]
   have hno : ¬ ∃ (k : Nat) (hk : k < W.length), W[k].Message.Id = c.Id /\ W[k].Final = false /\ W[k].Time <= c.Time := by
    rintro ⟨k, hk, h1, _⟩; exact hx ⟨_, List.getElem_mem hk, h1⟩
   rw [if_neg hno]
   simp
 ·simp [k2]
end Go.Proofs
end
section
namespace Go.Proofs
open Go.Tm
set_option linter.unusedSimpArgs false
set_option linter.unusedVariables false
theorem tail_eq (D : List TStamp) (ck : Int) (W : List TWait) (hJ : J ck W D) (hl : W.length <= 200) (hd : D.length <= 200) (fu : Nat) (hf : W.length < fu) :
  ∃ W' D' M', zc5 ⟨⟨ck, W, D⟩⟩ = some (M', ⟨⟨ck, W', D'⟩⟩) /\ zay fu W D [] = some (W', D', M') := by
 obtain ⟨ws, W', g1, _⟩ := del_loop ⟨⟨ck, W, D⟩⟩ ck (W.length + 1) W D [] (by omega) hJ (by omega) (by simp; omega)
 refine ⟨W', D ++ ws.map stW, [] ++ ws.map TWait.Message, ?_, ?_⟩
 ·rw [zc5]
  have g1 : zao ⟨⟨ck, W, D⟩⟩ (W.length + 1) W D [] = _ := g1
  simp only [g1, Option.bind_some]
 ·rw [del2 ⟨⟨ck, W, D⟩⟩ ck (W.length + 1) fu W D [] (by omega) hf hJ (by omega) (by simp; omega), g1]
theorem put_eq (s : TSkeen) (g : Int) (c : TCommand) (h : V s) (hg : 0 <= g /\ g < 4) (hc : zbg c = some 0) :
  ∃ x m ok, zdj s g c = some (x, m, ok) /\ (if ok = true then (x, m) else (s, [])) = stp g s c := by
 have hj := h.j
 have hlw := h.lw
 have hld := h.ld
 have hc0 := h.c0
 obtain ⟨e, he, hcc⟩ := cmd_tot c
 obtain ⟨hm1, hm2⟩ := hcc (by rw [he] at hc; exact Option.some.inj hc)
 have htw : zdm s = some s := twin_sk s (by omega) (by omega) (fun w hw => by have := (hj.w.1 w hw).1.groups; omega)
 rw [zdj, put_pre s g c hj.w.2]
 unfold stp
 rw [zcs, check_ok h]
 simp only [Option.bind_some, not_true_eq_false, if_false]
 rw [if_neg (show ¬ (g < 0 \/ g >= 4) by omega), hc]
 simp only [Option.bind_some, not_true_eq_false, if_false]
 rw [htw]
 simp only [Option.bind_some]
 -- how both end
 have fin : ∀ (W : List TWait) (ck : Int), J ck W s.Done -> W.length <= 200 -> W.length < s.Waits.length + 2 ->
   ∃ W' D' M', zc5 ⟨⟨ck, W, s.Done⟩⟩ = some (M', ⟨⟨ck, W', D'⟩⟩) /\ zay (s.Waits.length + 2) W s.Done [] = some (W', D', M') :=
  fun W ck hJ h1 h2 => tail_eq s.Done ck W hJ h1 hld _ h2
 have close : ∀ (W' : List TWait) (D' : List TStamp) (M' : List TMessage) (ck : Int), (if decide ((D'.length : Int) <= 200) = true then ((⟨ck, W', D'⟩ : TSkeen), M') else (s, [])) =
   (match (if (D'.length : Int) > 200 then some (zSk, ([] : List TMessage), (9 : Int)) else some ((⟨ck, W', D'⟩ : TSkeen), M', 0)) with | some r => if r.2.2 = 0 then (r.1, r.2.1) else (s, []) | none => (s, [])) := by
  intro W' D' M' ck
  by_cases hD : (D'.length : Int) > 200
  ·rw [if_pos hD, if_neg (by simp; omega)]; rfl
  ·rw [if_neg hD, if_pos (by simp; omega)]; rfl
 by_cases k1 : c.Kind = 1
 ·have k2 : ¬ c.Kind = 2 := by omega
  rw [if_pos k1]
  rcases assign_eq2 s g c.Message hlw hc0 hj (hm1 k1) with ⟨hb, ha⟩ | ⟨a1, a2, a3, hr⟩
  ·have ha : zak ⟨s⟩ g c.Message = _ := ha
   rw [ha, if_neg (by
    rintro ⟨_, b1, b2, b3⟩
    rcases hb with h | h | h
    ·exact b1 h
    ·rw [h] at b2; cases b2
    ·exact h b3)]
   simp only [Option.bind_some, not_true_eq_false, if_false]
   rw [put_mid c s.Done s.Clock s.Waits hj.w.2, if_neg (fun hh => k2 hh.1)]
   obtain ⟨W', D', M', d1, d2⟩ := fin s.Waits s.Clock hj hlw (by omega)
   rw [d2, show (⟨s⟩ : Tskeen_clock) = ⟨⟨s.Clock, s.Waits, s.Done⟩⟩ from rfl, d1]
   simp only [Option.bind_some]
   exact ⟨_, _, _, rfl, close W' D' M' _⟩
  ·rw [if_pos ⟨k1, a1, a2, a3⟩]
   rcases hr with ⟨hf, ha⟩ | ⟨hf, ha⟩
   ·have ha : zak ⟨s⟩ g c.Message = _ := ha
    rw [ha, if_pos hf]
    simp only [Option.bind_some]
    exact ⟨_, _, _, rfl, rfl⟩
   ·have ha : zak ⟨s⟩ g c.Message = _ := ha
    have hw : wr .i64 (s.Clock + 1) = s.Clock + 1 := by have := hj.c1; rw [wr_i (by omega) (by omega)]
    have hmg := (hm1 k1).groups
    have hne : ∀ w ∈ s.Waits, w.Message.Id ≠ c.Message.Id := fun w hw he => a1 ⟨w, hw, he⟩
    have hnd : ∀ x ∈ s.Done, x.Id ≠ c.Message.Id := by
     intro x hxd he
     have := List.any_eq_false.1 a2 x hxd
     simp [he] at this
    have hJ := hj.ins c.Message (hm1 k1) hc0 (by have := hj.c1; omega) hnd hne
    rw [ha, if_neg hf, zb3, if_pos (by omega)]
    simp only [Option.bind_some, not_true_eq_false, if_false]
    rw [hw, with_eq s.Waits ⟨c.Message, s.Clock + 1, false⟩ (by omega) hj.w.2 hne]
    simp only [Option.bind_some]
    have hpl := plc_le c.Message.Id s.Waits
    have hlen : (s.Waits.take (plc c.Message.Id s.Waits) ++ ⟨c.Message, s.Clock + 1, false⟩ :: s.Waits.drop (plc c.Message.Id s.Waits)).length = s.Waits.length + 1 := by simp; omega
    rw [put_mid c s.Done (s.Clock + 1) _ hJ.w.2, if_neg (fun hh => k2 hh.1)]
    obtain ⟨W', D', M', d1, d2⟩ := fin _ _ hJ (by omega) (by omega)
    rw [d2, d1]
    simp only [Option.bind_some]
    exact ⟨_, _, _, rfl, close W' D' M' _⟩
 ·rw [if_neg k1, if_neg (fun hh => k1 hh.1)]
  simp only [Option.bind_some]
  rw [put_mid c s.Done s.Clock s.Waits hj.w.2]
  by_cases k2 : c.Kind = 2
  ·rw [if_pos k2]
   obtain ⟨i1, i2, i3⟩ := hm2 k2
   rcases final_eq s c.Id c.Time (by omega) hj i1 with ⟨hf, hno⟩ | ⟨k, hk, b1, b2, b3, hf⟩
   ·have hf : zbz ⟨s⟩ c.Id c.Time = _ := hf
    rw [hf, if_neg (by
     rintro ⟨_, k, hk, b1, b2, b3⟩
     rcases hno _ (List.getElem_mem hk) b1 with hh | hh
     ·rw [b2] at hh; cases hh
     ·omega)]
    simp only [Option.bind_some]
    obtain ⟨W', D', M', d1, d2⟩ := fin s.Waits s.Clock hj hlw (by omega)
    rw [d2, show (⟨s⟩ : Tskeen_clock) = ⟨⟨s.Clock, s.Waits, s.Done⟩⟩ from rfl, d1]
    simp only [Option.bind_some]
    exact ⟨_, _, _, rfl, close W' D' M' _⟩
   ·have hf : zbz ⟨s⟩ c.Id c.Time = _ := hf
    rw [hf, if_pos ⟨k2, k, hk, b1, b2, b3⟩]
    simp only [Option.bind_some]
    obtain ⟨hp, he'⟩ := (plc_at c.Id s.Waits hj.w.2).1 ⟨_, List.getElem_mem hk, b1⟩
    have hpk : plc c.Id s.Waits = k := idx_up hj.w.2 hp hk (at_id hj.w.2 (List.getElem_mem hp) (List.getElem_mem hk) (he'.trans b1.symm))
    rw [hpk, getW hk]
    obtain ⟨W', D', M', d1, d2⟩ := fin _ _ (hj.set k hk b3 i3) (by simpa using hlw) (by simp)
    rw [d2, d1]
    simp only [Option.bind_some]
    exact ⟨_, _, _, rfl, close W' D' M' _⟩
  ·rw [if_neg k2, if_neg (fun hh => k2 hh.1)]
   simp only [Option.bind_some]
   obtain ⟨W', D', M', d1, d2⟩ := fin s.Waits s.Clock hj hlw (by omega)
   rw [d2, show (⟨s⟩ : Tskeen_clock) = ⟨⟨s.Clock, s.Waits, s.Done⟩⟩ from rfl, d1]
   simp only [Option.bind_some]
   exact ⟨_, _, _, rfl, close W' D' M' _⟩
end Go.Proofs
end
section
namespace Go.Proofs
open Go.Tm
set_option linter.unusedSimpArgs false
set_option linter.unusedVariables false
theorem read_chk {s : List UInt8} {c : TCommand} (h : zc4 s = some (c, 0)) : zbg c = some 0 := by
 by_cases hs : (s.length : Int) > 1024
 ·rw [zc4, if_pos hs] at h; cases h
 ·obtain ⟨c1, r, c', rest, b, h1, h2, h3⟩ := parse_eq (zft s) (ofB_bytes s) (by rw [ofB_len]; omega)
  rw [readP hs h1] at h
  unfold finR at h
  split at h
  ·rename_i hc
   have := Option.some.inj h
   have : c1 = c := congrArg Prod.fst this
   rw [<- this]; exact hc.2.2
  ·have := congrArg Prod.snd (Option.some.inj h)
   simp at this
theorem cmds_chk : ∀ (l : List (List UInt8)) (cs : List TCommand), cmdsS l = some cs -> ∀ c ∈ cs, zbg c = some 0 := by
 intro l
 induction l with
 | nil => intro cs h; simp [cmdsS] at h; subst h; simp
 | cons s l ih =>
  intro cs h
  obtain ⟨⟨c, e⟩, hr⟩ := zmm s
  simp only [cmdsS, hr] at h
  split at h
  ·rename_i he
   obtain ⟨ds, hd, rfl⟩ := Option.map_eq_some_iff.1 h
   subst he
   intro x hx
   rcases List.mem_cons.1 hx with rfl | hx
   ·exact read_chk hr
   ·exact ih ds hd x hx
  ·cases h
theorem all_eq : ∀ (l : List (List UInt8)) (cs acc : List TCommand), cmdsS l = some cs -> acc.length + l.length < 1000000 -> zaz l acc = some (acc ++ cs) := by
 intro l
 induction l with
 | nil => intro cs acc h _; simp [cmdsS] at h; subst h; simp [zaz]
 | cons s l ih =>
  intro cs acc h hl
  simp only [List.length_cons] at hl
  obtain ⟨⟨c, e⟩, hr⟩ := zmm s
  simp only [cmdsS, hr] at h
  split at h
  ·obtain ⟨ds, hd, rfl⟩ := Option.map_eq_some_iff.1 h
   rw [zaz, read2, hr]
   simp only [Option.bind_some]
   rw [if_pos (by simp; omega), ih ds _ hd (by simp; omega)]
   simp
  ·cases h
theorem chk13_loop : ∀ (l : List (List UInt8)), zb4 l = some (if cmdsS l = none then .inl 8 else .inr ()) := by
 intro l
 induction l with
 | nil => simp [zb4, cmdsS]
 | cons s l ih =>
  obtain ⟨⟨c, e⟩, hr⟩ := zmm s
  have hcs : cmdsS (s :: l) = if e = 0 then (cmdsS l).map (c :: ·) else none := by simp [cmdsS, hr]
  rw [zb4, read2, hr]
  simp only [Option.bind_some]
  by_cases he : e = 0
  ·rw [if_neg (by simpa using he), ih]
   rw [if_pos he] at hcs
   simp [hcs]
  ·rw [if_pos he]
   rw [if_neg he] at hcs
   simp [hcs]
theorem asked_eq (g : Int) (l : List (List UInt8)) : zd1 g l = some (askS g l) := by
 rw [zd1, zek, chk13_loop]
 unfold askS
 by_cases hg : g < 0 \/ g >= 4
 ·rw [if_pos hg, if_pos hg]
 ·rw [if_neg hg, if_neg hg]
  by_cases hl : (l.length : Int) > 200
  ·rw [if_pos hl, if_pos hl]; rfl
  ·rw [if_neg hl, if_neg hl]
   by_cases hc : cmdsS l = none
   ·rw [if_pos hc, if_pos hc]; rfl
   ·rw [if_neg hc, if_neg hc]; rfl
theorem twin15_loop : ∀ (l acc : List TWait), acc.length + l.length < 1000000 -> (∀ w ∈ l, w.Message.Groups.length * 8 <= 140737488355328) -> zbp l acc = some (acc ++ l) := by
 intro l
 induction l with
 | nil => intro acc _ _; simp [zfm]
 | cons y l ih =>
  intro acc h hg
  simp only [List.length_cons] at h
  rw [zfn, zb3, if_pos (hg y (List.mem_cons_self ..))]
  simp only [Option.bind_some]
  rw [if_pos (by simp; omega), ih _ (by simp; omega) (fun w hw => hg w (List.mem_cons_of_mem _ hw))]
  simp
theorem twin15 {s : TSkeen} (h : V s) : zco s = some s := by
 have h1 := h.lw
 have h2 := h.ld
 rw [zco, if_pos (by omega), twin15_loop s.Waits [] (by simp; omega) (fun w hw => by have := (h.w.1 w hw).1.groups; omega)]
 rfl
def zks (g : Int) : TSkeen -> List TCommand -> List Ttowncrierref16_Step
 | _, [] => []
 | s, c :: l => ⟨c, s, (stp g s c).1, (stp g s c).2⟩ :: zks g (stp g s c).1 l
theorem steps_loop (g : Int) (hg : 0 <= g /\ g < 4) : ∀ (cs : List TCommand) (s : TSkeen) (acc : List Ttowncrierref16_Step), V s -> (∀ c ∈ cs, zbg c = some 0) -> acc.length + cs.length < 1000000 ->
  zb0 g cs acc s.Clock s.Waits s.Done = some (acc ++ zks g s cs) := by
 intro cs
 induction cs with
 | nil => intro s acc _ _ _; simp [zf4, zks]
 | cons c cs ih =>
  intro s acc hV hc hl
  simp only [List.length_cons] at hl
  obtain ⟨x, m, ok, hp, hs⟩ := put_eq s g c hV hg (hc c (List.mem_cons_self ..))
  obtain ⟨r, _, hV', _⟩ := stp_ok (g := g) (c := c) hV
  have ht : zco (⟨s.Clock, s.Waits, s.Done⟩ : TSkeen) = some s := twin15 hV
  rw [zf5, ht]
  simp only [Option.bind_some]
  rw [hp]
  simp only [Option.bind_some]
  have hst : (if ¬ (ok = true) then some (s.Clock, s.Waits, s.Done, []) else some (x.Clock, x.Waits, x.Done, m)) = some ((stp g s c).1.Clock, (stp g s c).1.Waits, (stp g s c).1.Done, (stp g s c).2) := by
   rw [<- hs]
   cases ok <;> rfl
  rw [hst]
  simp only [Option.bind_some]
  rw [if_pos (by simp; omega), ih (stp g s c).1 _ hV' (fun d hd => hc d (List.mem_cons_of_mem _ hd)) (by simp; omega), zks]
  simp
theorem steps_eq (g : Int) (hg : 0 <= g /\ g < 4) (l : List (List UInt8)) (cs : List TCommand) (hc : cmdsS l = some cs) (hl : l.length <= 200) : zch g l = some (zks g zSk cs) := by
 have hn := cmds_len l cs hc
 rw [zch, ze8, all_eq l cs [] hc (by simp; omega)]
 have h1 := steps_loop g hg cs zSk [] V_zero (cmds_chk l cs hc) (by simp; omega)
 have h1 : zb0 g cs [] 0 [] [] = _ := h1
 simp only [Option.bind_some, List.nil_append, h1]
theorem made_loop (g : Int) : ∀ (cs : List TCommand) (s : TSkeen) (acc : List TMessage), V s -> acc.length = s.Done.length ->
  zb8 (zks g s cs) s.Clock s.Waits s.Done acc = some ((fin g s cs).Clock, (fin g s cs).Waits, (fin g s cs).Done, acc ++ outs g s cs) := by
 intro cs
 induction cs with
 | nil => intro s acc _ _; simp [zks, zfk, fin, outs]
 | cons c cs ih =>
  intro s acc hV ha
  obtain ⟨r, _, hV', _, ⟨d, hd, hdl⟩, _⟩ := stp_ok (g := g) (c := c) hV
  have hld := hV'.ld
  rw [hd] at hld
  simp only [List.length_append] at hld
  rw [zks, zfl, if_pos (by show acc.length + (stp g s c).2.length < 1000000; omega), ih (stp g s c).1 _ hV' (by rw [hd]; simp; omega)]
  simp [fin, outs]
def gvn (x : Torder_given) : Ttowncrierref16_Given := ⟨x.fTime, x.fM⟩
theorem times_loop (g : Int) : ∀ (cs : List TCommand) (s : TSkeen) (acc : List Ttowncrierref16_Given), acc.length + cs.length < 1000000 ->
  zbh (zks g s cs) acc = some (acc ++ (tms g s cs).map gvn) := by
 intro cs
 induction cs with
 | nil => intro s acc _; simp [zks, zf2, tms]
 | cons c cs ih =>
  intro s acc h
  simp only [List.length_cons] at h
  rw [zks, zf3, tms]
  by_cases hc : ((stp g s c).1.Waits.length : Int) > (s.Waits.length : Int)
  ·rw [if_pos hc, if_pos (by simp; omega), if_pos hc]
   simp only [Option.bind_some]
   rw [ih _ _ (by simp; omega)]
   simp [gvn]
  ·rw [if_neg hc, if_neg hc]
   simp only [Option.bind_some]
   rw [ih _ _ (by omega)]
   simp
theorem rlocal_loop : ∀ (l : List Ttowncrierref16_Given) (acc : List TStamp), acc.length + l.length < 1000000 -> zbi l acc = some (acc ++ l.map fun x => (⟨x.Time, x.Message.Id⟩ : TStamp)) := by
 intro l
 induction l with
 | nil => intro acc _; simp [zf6]
 | cons y l ih =>
  intro acc h
  simp only [List.length_cons] at h
  rw [zf7, if_pos (by simp; omega), ih _ (by simp; omega)]
  simp
theorem ask_grp {g : Int} {l : List (List UInt8)} (h : askS g l = 0) : 0 <= g /\ g < 4 := by
 unfold askS at h
 split at h
 ·cases h
 ·omega
theorem play16 (g : Int) (l : List (List UInt8)) : zd9 g l = zf9 g l := by
 rw [zd9, asked_eq]
 simp only [Option.bind_some]
 rcases play_eq g l with ⟨e, he, ha, hp⟩ | ⟨cs, ha, hc, hl, hp⟩
 ·rw [hp, ha, if_pos he]; rfl
 ·rw [hp, ha, if_neg (by omega), zdx, steps_eq g (ask_grp ha) l cs hc hl]
  have h1 := made_loop g cs zSk [] V_zero rfl
  have h1 : zb8 (zks g zSk cs) 0 [] [] [] = _ := h1
  simp only [Option.bind_some, h1, List.nil_append]
theorem local16 (g : Int) (l : List (List UInt8)) : zdq g l = zer g l := by
 rw [zdq, asked_eq]
 simp only [Option.bind_some]
 rcases local_eq g l with ⟨e, he, ha, hp⟩ | ⟨cs, ha, hc, hl, hp⟩
 ·rw [hp, ha, if_pos he]
 ·have hn := cmds_len l cs hc
  have ht := tms_len g cs zSk
  rw [hp, ha, if_neg (by omega), zdp, steps_eq g (ask_grp ha) l cs hc hl]
  simp only [Option.bind_some]
  rw [times_loop g cs zSk [] (by simp; omega)]
  simp only [Option.bind_some, List.nil_append]
  rw [rlocal_loop _ [] (by simp; omega)]
  simp [gvn]
theorem same15_self (s : TSkeen) : zdy s s = some true := by
 have lp : ∀ (l pre : List TWait), s.Waits = pre ++ l -> zbq s l pre.length = some (.inr ()) := by
  intro l
  induction l with
  | nil => intro pre _; rfl
  | cons y l ih =>
   intro pre h
   have hn : pre.length < s.Waits.length := by rw [h]; simp
   have hg : s.Waits.getD pre.length default = y := by
    rw [getW hn]
    simp [h]
   rw [zbq, if_pos hn, hg, sm12_eq]
   simp only [Option.bind_some]
   rw [if_neg (by simp)]
   have := ih (pre ++ [y]) (by rw [h]; simp)
   rw [List.length_append, List.length_singleton] at this
   exact this
 rw [zdy, ss_eq]
 have := lp s.Waits [] rfl
 rw [List.length_nil] at this
 rw [this]
 simp
theorem sameTexts_self (l : List (List UInt8)) : zcu l l = some true := by
 have lp : ∀ (r pre : List (List UInt8)), l = pre ++ r -> zax l r pre.length = some (.inr ()) := by
  intro r
  induction r with
  | nil => intro pre _; rfl
  | cons y r ih =>
   intro pre h
   have hn : pre.length < l.length := by rw [h]; simp
   have hg : l.getD pre.length default = y := by
    rw [List.getD_eq_getElem?_getD, h]; simp
   rw [zax, if_pos hn, hg, if_neg (by simp)]
   have := ih (pre ++ [y]) (by rw [h]; simp)
   rw [List.length_append, List.length_singleton] at this
   exact this
 rw [zcu, if_neg (by simp)]
 have := lp l [] rfl
 rw [List.length_nil] at this
 rw [this]; rfl
theorem great2b (l : List (List UInt8)) : ∀ (fu k : Nat) (n : Int), 1000 - k < fu -> k <= 1000 -> 0 <= n -> n <= 20000 * k -> ∃ r, zbj [l] 0 fu n (k : Int) = some r /\ n + 100 * ((min l.length 1000 - k : Nat) : Int) <= r /\ r <= 20000 * 1000 := by
 intro fu
 induction fu with
 | zero => intro k n h; omega
 | succ fu ih =>
  intro k n h hk h0 h1
  rw [zbj, if_pos (by simp)]
  have hl : ([l] : List (List (List UInt8))).getD (0 : Int).toNat default = l := rfl
  rw [hl]
  by_cases hc : (k : Int) < (l.length : Int) /\ (k : Int) < 1000
  ·rw [if_pos hc, if_pos (by simp), if_pos (by omega), wr_ok ((k : Int) + 1) (by omega)]
   generalize hx : (min ((l.getD (k : Int).toNat default).length : Int) 10000) = x
   have hx0 : 0 <= x /\ x <= 10000 := by omega
   rw [wr_ok (n + x) (by omega), wr_ok (n + x + 100) (by omega)]
   obtain ⟨r, hr, h2, h3⟩ := ih (k + 1) (n + x + 100) (by omega) (by omega) (by omega) (by omega)
   exact ⟨r, hr, by omega, h3⟩
  ·rw [if_neg hc]; exact ⟨n, rfl, by omega, by omega⟩
theorem great1b (l : List (List UInt8)) : ∃ b, zdr [l] = some b /\ (b = false -> l.length <= 300) := by
 obtain ⟨r, hr, h1, h2⟩ := great2b l 1002 0 0 (by omega) (by omega) (by omega) (by omega)
 rw [show ((0 : Nat) : Int) = 0 from rfl] at hr
 rw [zdr, zbk, if_pos (by simp), hr]
 simp only [Option.bind_some]
 rw [wr_ok _ (by omega), zbk, if_neg (by simp)]
 refine ⟨_, rfl, fun h => ?_⟩
 simp at h
 omega
theorem plays_law (g : Int) (l : List (List UInt8)) : zdf g l = some true := by
 obtain ⟨b, hb, hbl⟩ := great1b l
 rw [zdf, hb]
 simp only [Option.bind_some]
 cases b with
 | true => rfl
 | false =>
 have hl := hbl rfl
 rw [if_neg (by simp), if_pos (by omega), play16, local16]
 obtain ⟨p, hp⟩ : ∃ p, zf9 g l = some p := by
  rcases play_eq g l with ⟨e, _, _, hp⟩ | ⟨cs, _, _, _, hp⟩ <;> exact ⟨_, hp⟩
 obtain ⟨q, hq⟩ : ∃ q, zer g l = some q := by
  rcases local_eq g l with ⟨e, _, _, hp⟩ | ⟨cs, _, _, _, hp⟩ <;> exact ⟨_, hp⟩
 rw [hp, hq]
 simp only [Option.bind_some, same15_self, sms_eq, ss_eq, sameTexts_self]
 simp
end Go.Proofs
end
section
namespace Go.Tm
open Go.RowKit Go.WideShapes Go.ChangeShapes
def aggT (P : Program) (t : TypeId) : Bool := match P.underlying t with
 | some (.struct _) => true
 | _ => false
def mkD (P : Program) (t : TypeId) (l : List D) : D := bif aggT P t then .agg l else l.headD .undef
def zkn (P : Program) (chk : TypeId -> Bool) : Nat -> List Field -> Nat -> Bool
 | off, [], tot => Nat.beq off tot
 | off, f :: fs, tot => Nat.beq f.offset off && chk f.type && zkn P chk (off + P.cellsOf f.type) fs tot
def dataT (P : Program) : Nat -> TypeId -> Bool
 | 0, _ => false
 | n + 1, t => match P.underlying t with
  | some .bool => true
  | some (.int _) => true
  | some .string => true
  | some (.slice e) => dataT P n e && Nat.blt 0 (P.cellsOf e) && (aggT P e || Nat.beq (P.cellsOf e) 1)
  | some (.struct fs) => zkn P (dataT P n) 0 fs.toList (P.cellsOf t)
  | _ => false
def typedL (p : TypeId -> List D -> Prop) : List TypeId -> List D -> Prop
 | [], l => l = []
 | t :: ts, l => ∃ l1 l2, l = l1 ++ l2 /\ p t l1 /\ typedL p ts l2
def typed (P : Program) : Nat -> TypeId -> List D -> Prop
 | 0, _, _ => False
 | n + 1, t, l => match P.underlying t with
  | some .bool => ∃ b, l = [.bool b]
  | some (.int k) => ∃ m, l = [.int k m]
  | some .string => ∃ s, l = [.str s]
  | some (.slice e) => ∃ xs : List (List D), l = [.imm (P.cellsOf e) (xs.map (mkD P e)) 4] /\ ∀ x ∈ xs, typed P n e x
  | some (.struct fs) => typedL (typed P n) (fs.toList.map (·.type)) l
  | _ => False
theorem znu {C : Cx} : ∀ {l1 l2 : List D} {v1 v2 : List Value}, reps C l1 v1 -> reps C l2 v2 -> reps C (l1 ++ l2) (v1 ++ v2)
 | [], l2, v1, v2, h1, h2 => by simp only [reps] at h1; subst h1; simpa using h2
 | d :: ds, l2, v1, v2, h1, h2 => by
  simp only [reps] at h1
  obtain ⟨v, vs, rfl, hd, h1⟩ := h1
  simp only [List.cons_append, reps]
  exact ⟨v, vs ++ v2, rfl, hd, znu h1 h2⟩
theorem elems_of {C : Cx} {b s : Nat} {p : List D -> Prop} {f : List D -> D} : ∀ (n o : Nat), (∀ i, i < n -> ∃ l v, p l /\ rep C (f l) v /\ v.cells.size = s /\ v.cells.toList.all (·.oneCell') = true /\ C.w.rangeAt b (o + i * s) v.cells.toList) ->
  ∃ xs : List (List D), xs.length = n /\ elems C (xs.map f) b o s /\ ∀ x ∈ xs, p x
 | 0, o, _ => ⟨[], rfl, by simp only [List.map_nil, elems], by simp⟩
 | n + 1, o, h => by
  obtain ⟨l, v, h1, h2, h3, h4, h5⟩ := h 0 (by omega)
  obtain ⟨xs, g1, g2, g3⟩ := elems_of n (o + s) (fun i hi => by
   obtain ⟨l, v, h1, h2, h3, h4, h5⟩ := h (i + 1) (by omega)
   exact ⟨l, v, h1, h2, h3, h4, by rwa [show o + (i + 1) * s = o + s + i * s by rw [Nat.add_mul]; omega] at h5⟩)
  refine ⟨l :: xs, by simp [g1], ?_, by simpa using ⟨h1, g3⟩⟩
  simp only [List.map_cons, elems]
  exact ⟨⟨v, h2, h3, h4, by simpa using h5⟩, g2⟩
theorem fieldsIn_le {P : Program} {chk : TypeId -> Bool} : ∀ (fs : List Field) (off tot : Nat), zkn P chk off fs tot = true -> off <= tot
 | [], off, tot, h => Nat.le_of_eq (Nat.eq_of_beq_eq_true h)
 | f :: fs, off, tot, h => by
  simp only [zkn, Bool.and_eq_true] at h
  have := fieldsIn_le fs _ _ h.2
  omega
section
variable {H : Type} {enc : TypeId × Value -> H} {P : Program} {w : World} {sp : Nat -> Bool}
theorem trod_reps : ∀ (n fuel : Nat) (t : TypeId) (cs : List Value) (x : DataW H × List MemPlace) (C : Cx), C.w = w -> (∀ b, ¬ C.M b) -> (∀ b, C.Z b) -> dataT P n t = true -> DataW.trod enc P w 0 sp true fuel t cs = some x ->
  ∃ l, reps C l cs /\ typed P n t l /\ cs.all (·.oneCell') = true
 | 0, _, _, _, _, _, _, _, _, h, _ => by simp [dataT] at h
 | n + 1, fuel, t, cs, x, C, hw, hM, hlo, hd, h => by
  unfold dataT at hd
  split at hd
  ·rename_i ht
   simp only [typed, ht]
   obtain ⟨b, rfl, _⟩ := DataW.trod_bool ht h
   exact ⟨[.bool b], by simp only [reps, rep]; exact ⟨_, _, rfl, rfl, rfl⟩, ⟨b, rfl⟩, rfl⟩
  ·rename_i k ht
   simp only [typed, ht]
   obtain ⟨m, rfl, _, hwf⟩ := DataW.trod_int ht h
   simp only [Lit.wf, Bool.and_eq_true, decide_eq_true_eq] at hwf
   exact ⟨[.int k m], by simp only [reps, rep]; exact ⟨_, _, rfl, ⟨rfl, hwf⟩, rfl⟩, ⟨m, rfl⟩, rfl⟩
  ·rename_i ht
   simp only [typed, ht]
   obtain ⟨s, rfl, _, hs⟩ := DataW.trod_string ht h
   refine ⟨[.str s.data.toList], ?_, ⟨_, rfl⟩, rfl⟩
   simp only [reps, rep]
   refine ⟨_, _, rfl, ⟨by rw [Array.toArray_toList], ?_⟩, rfl⟩
   have h1 : s.data.toList.length = s.size := by rw [Array.length_toList]; rfl
   have h2 : s.size <= 9223372036854775807 := hs
   rw [h1]; omega
  ·rename_i e ht
   simp only [typed, ht]
   simp only [Bool.and_eq_true, Bool.or_eq_true] at hd
   obtain ⟨⟨hde, hpos⟩, hone⟩ := hd
   have hpos : 0 < P.cellsOf e := Nat.le_of_ble_eq_true hpos
   rcases DataW.trod_slice ht h with ⟨rfl, _⟩ | ⟨a, len, cap, els, rest, m, _, rfl, _, hb, hl, hc, hlen, hel, _⟩
   ·refine ⟨[.imm (P.cellsOf e) (([] : List (List D)).map (mkD P e)) 4], ?_, ⟨[], rfl, fun _ h => by cases h⟩, rfl⟩
    simp only [reps, rep, List.map_nil, List.length_nil]
    exact ⟨_, _, rfl, ⟨none, 0, rfl, by simp, by simp, by simp, by simp, by simp, by simp, by simp, .inl trivial⟩, rfl⟩
   ·have hc : cap <= 9223372036854775807 := hc
    have key : ∀ i, i < len -> ∃ l v, typed P n e l /\ rep (C.at C.Z) (mkD P e l) v /\ v.cells.size = P.cellsOf e /\ v.cells.toList.all (·.oneCell') = true /\ (i = 0 -> a.spot = none) /\ a.block < w.heap.size /\ w.rangeAt a.block (a.off + i * P.cellsOf e) v.cells.toList := by
     intro i hi
     have hi' := hel i hi
     have hsome : els[i]? = some els[i] := List.getElem?_eq_getElem (by omega)
     rw [hsome, Option.bind_eq_some_iff] at hi'
     obtain ⟨cs', hcs, htr⟩ := hi'
     obtain ⟨_, hclen, hcell⟩ := World.cells?_some hcs
     obtain ⟨l, g1, g2, g3⟩ := trod_reps n m e cs' _ (C.at C.Z) (by simpa [Cx.at] using hw) (by simpa [Cx.at] using hM) (by simpa [Cx.at] using hlo) hde htr
     have h0 := hcell 0 hpos
     have hc0 : cs'[0]? = some cs'[0] := List.getElem?_eq_getElem (by omega)
     rw [hc0] at h0
     have hadd : ∀ j, ((a.add (i * P.cellsOf e)).add j).block = a.block := by intro j; unfold Addr.add; split <;> split <;> rfl
     have hblk : a.block < w.heap.size /\ ((a.add (i * P.cellsOf e)).add 0).spot = none := by
      unfold World.cell? at h0
      rw [hadd] at h0
      split at h0
      ·rename_i c T fz hh
       have := (Array.getElem?_eq_some_iff.1 hh).1
       split at h0
       ·cases h0
       ·rename_i hs; exact ⟨this, by simpa using hs⟩
      ·cases h0
     have hspot0 : (a.add (i * P.cellsOf e)).spot = none := by simpa [Addr.add] using hblk.2
     have hae : ∀ j, j < P.cellsOf e -> (a.add (i * P.cellsOf e)).add j = ⟨a.block, a.off + i * P.cellsOf e + j, none⟩ := by
      intro j _
      unfold Addr.add at hspot0 ⊢
      split at hspot0
      ·rename_i hz
       simp only [hz, if_true, Nat.add_zero]
       split
       ·rename_i hj; subst hj; cases a; simp_all
       ·rfl
      ·rename_i hz
       simp only [hz, if_false]
       split
       ·rename_i hj; subst hj; rfl
       ·rfl
     have hrange : w.rangeAt a.block (a.off + i * P.cellsOf e) cs' := by
      intro j v hj
      have hjl := (List.getElem?_eq_some_iff.1 hj).1
      have := hcell j (by omega)
      rw [hae j (by omega), hj] at this
      exact this
     cases hag : aggT P e with
     | true =>
      refine ⟨l, .agg cs'.toArray, g2, ?_, by simp [Value.cells, hclen], by simpa [Value.cells] using g3, ?_, hblk.1, by simpa [Value.cells] using hrange⟩
      ·simp only [mkD, hag, cond_true, rep]
       exact ⟨cs', rfl, g1⟩
      ·rintro rfl; simpa [Addr.add] using hspot0
     | false =>
      rw [hag] at hone
      have h1 : P.cellsOf e = 1 := by simpa using hone
      rw [h1] at hclen
      obtain ⟨v, rfl⟩ := List.length_eq_one_iff.1 hclen
      obtain ⟨d, rfl⟩ : ∃ d, l = [d] := List.length_eq_one_iff.1 ((zdv _ _ g1).symm.trans rfl)
      simp only [reps] at g1
      obtain ⟨v', vs', hv, hd, rfl⟩ := g1
      obtain rfl : v = v' := (List.cons.inj hv).1
      have hcv : v.cells = #[v] := by
       simp only [List.all_cons, List.all_nil, Bool.and_true] at g3
       cases v <;> first | rfl | simp [Value.oneCell'] at g3
      refine ⟨[d], v, g2, by simpa [mkD, hag] using hd, by simp [hcv, h1], by simpa [hcv] using g3, ?_, hblk.1, by simpa [hcv] using hrange⟩
      rintro rfl; simpa [Addr.add] using hspot0
    obtain ⟨xs, g1, g2, g3⟩ := elems_of (C := C.at C.Z) (b := a.block) (s := P.cellsOf e) (p := typed P n e) (f := mkD P e) len a.off (fun i hi => by
     obtain ⟨l, v, h1, h2, h3, h4, _, _, h5⟩ := key i hi
     exact ⟨l, v, h1, h2, h3, h4, by subst hw; exact h5⟩)
    refine ⟨[.imm (P.cellsOf e) (xs.map (mkD P e)) 4], ?_, ⟨xs, rfl, g3⟩, rfl⟩
    simp only [reps, rep, List.length_map, g1]
    refine ⟨_, _, rfl, ⟨some a, cap, rfl, hl, by omega, by simp, by simp, by simp, by simp, by simp, ?_⟩, rfl⟩
    rcases Nat.eq_zero_or_pos len with h0 | h0
    ·left; subst h0; have := List.length_eq_zero_iff.1 g1; simp [this]
    ·right
     obtain ⟨_, _, _, _, _, _, k1, k2, _⟩ := key 0 h0
     intro Z hZ
     have hZ : C.Z = Z := by simpa [Cx.zone] using hZ
     subst hZ
     exact ⟨a, rfl, k1 rfl, hM _, hlo _, by rw [hw]; exact k2, g2⟩
  ·rename_i fs ht
   simp only [typed, ht]
   obtain ⟨xs, m, _, _, hcl, hxl, hf⟩ := DataW.trod_struct ht h
   have key : ∀ (gs : List Field) (k : Nat), (∀ i f, gs[i]? = some f -> fs[k + i]? = some f) -> ∀ off, zkn P (dataT P n) off gs (P.cellsOf t) = true -> off <= cs.length -> 
     ∃ l, reps C l (cs.drop off) /\ typedL (typed P n) (gs.map (·.type)) l /\ (cs.drop off).all (·.oneCell') = true := by
    intro gs
    induction gs with
    | nil =>
     intro k _ off ho _
     simp only [zkn] at ho
     have ho := Nat.eq_of_beq_eq_true ho
     have : cs.drop off = [] := by rw [ho, <- hcl]; simp
     rw [this]
     exact ⟨[], by simp only [reps], rfl, rfl⟩
    | cons f gs ih =>
     intro k hk off ho hle
     simp only [zkn, Bool.and_eq_true] at ho
     obtain ⟨⟨h1, h2⟩, h3⟩ := ho
     have h1 := Nat.eq_of_beq_eq_true h1
     have hfk := hf k f (by simpa using hk 0 f rfl)
     have hkl : k < xs.length := by
      have := hk 0 f rfl
      rw [hxl]
      exact (Array.getElem?_eq_some_iff.1 (by simpa using this)).1
     rw [List.getElem?_eq_getElem hkl, h1] at hfk
     obtain ⟨l1, g1, g2, g3⟩ := trod_reps n m f.type _ _ C hw hM hlo h2 hfk
     have hl1 : ((cs.drop off).take (P.cellsOf f.type)).length = P.cellsOf f.type := by
      have := fieldsIn_le _ _ _ h3
      simp
      omega
     obtain ⟨l2, k1, k2, k3⟩ := ih (k + 1) (fun i f' hi => by have := hk (i + 1) f' (by simpa using hi); rwa [show k + (i + 1) = k + 1 + i by omega] at this) (off + P.cellsOf f.type) h3 (by
      simp at hl1; omega)
     have e : cs.drop off = (cs.drop off).take (P.cellsOf f.type) ++ cs.drop (off + P.cellsOf f.type) := by
      rw [<- List.drop_drop, List.take_append_drop]
     refine ⟨l1 ++ l2, by rw [e]; exact znu g1 k1, ⟨l1, l2, rfl, g2, k2⟩, by rw [e, List.all_append, g3, k3]; rfl⟩
   simpa using key fs.toList 0 (fun i f hi => by simpa using hi) 0 hd (Nat.zero_le _)
  ·cases hd
theorem trod_rep {r : Reach} {b0 n : Nat} {t : TypeId} {v : Value} {d : DataW H} {ps : List MemPlace} {fr : Nat} (hd : dataT P n t = true) (hval : Value.okWide P w r b0 t v) (h : DataW.Trod enc P w 0 sp true t v d ps) :
  ∃ l, typed P n t l /\ rep (cx0 w fr) (mkD P t l) v := by
 obtain ⟨fuel, h⟩ := h
 obtain ⟨l, h1, h2, h3⟩ := trod_reps n fuel t _ _ (cx0 w fr) rfl (fun _ h => h) (fun _ => trivial) hd h
 refine ⟨l, h2, ?_⟩
 unfold mkD aggT
 cases n with
 | zero => simp [dataT] at hd
 | succ n =>
  unfold dataT at hd
  unfold Value.okWide at hval
  split at hd
  case h_5 fs ht =>
   rw [ht] at hval ⊢
   obtain ⟨cs, rfl, _⟩ := hval
   simp only [cond_true, rep]
   exact ⟨cs.toList, by simp, by simpa [Value.cells] using h1⟩
  case h_6 => cases hd
  all_goals
   rename_i ht
   rw [ht] at hval ⊢
   simp only [cond_false]
   have hcv : v.cells = #[v] := by
    cases v with
    | agg cs => simp [Cell.okWide, Cell.ok, ht] at hval
    | _ => rfl
   rw [hcv] at h1
   have hl : ∃ d, l = [d] := List.length_eq_one_iff.1 ((zdv _ _ h1).symm.trans rfl)
   obtain ⟨d, rfl⟩ := hl
   simp only [reps] at h1
   obtain ⟨v', vs', hv, hd', _⟩ := h1
   obtain rfl : v = v' := by simpa using (List.cons.inj hv).1
   exact hd'
def zkg (P : Program) (n : Nat) : List TypeId -> List D -> Prop
 | [], l => l = []
 | t :: ts, l => ∃ c r, l = mkD P t c :: r /\ typed P n t c /\ zkg P n ts r
theorem znq {r : Reach} {b0 n fr : Nat} : ∀ {ts : List TypeId} {vs : List Value} {ds : List (DataW H)} {ps : List MemPlace}, ts.all (dataT P n) = true -> (∀ (j : Nat) t v, ts[j]? = some t -> vs[j]? = some v -> Value.okWide P w r b0 t v) ->
  DataW.TrodAll enc P w 0 sp true ts vs ds ps -> ∃ l, zkg P n ts l /\ reps (cx0 w fr) l vs
 | [], [], [], _, _, _, _ => ⟨[], rfl, by simp only [reps]⟩
 | t :: ts, v :: vs, d :: ds, ps, hd, hval, h => by
  obtain ⟨p, q, h1, h2, _⟩ := h
  simp only [List.all_cons, Bool.and_eq_true] at hd
  obtain ⟨c, g1, g2⟩ := trod_rep (fr := fr) hd.1 (hval 0 t v rfl rfl) h1
  obtain ⟨l, k1, k2⟩ := znq hd.2 (fun j t v h h' => hval (j + 1) t v h h') h2
  exact ⟨_ :: l, ⟨c, l, rfl, g1, k1⟩, by simp only [reps]; exact ⟨_, _, rfl, g2, k2⟩⟩
 | [], _ :: _, _, _, _, _, h => h.elim
 | [], [], _ :: _, _, _, _, h => h.elim
 | _ :: _, [], _, _, _, _, h => h.elim
 | _ :: _, _ :: _, [], _, _, _, h => h.elim
theorem zmd (hl : laidOutB P = true) {W W' : World} (hB : Below W.heap.size W W') {sp' : Nat -> Bool} : ∀ {ts : List TypeId} {vs : List Value} {ds : List (DataW H)} {ps : List MemPlace}, (ts.all fun t => P.readableRec t && Nat.blt t P.types.size) = true ->
  DataW.TrodAll enc P W 0 (fun _ => true) true ts vs ds ps -> (∀ p ∈ ps, p.block < W.heap.size /\ sp' p.block = true) -> DataW.TrodAll enc P W' 0 sp' true ts vs ds ps
 | [], [], [], _, _, h, _ => h
 | t :: ts, v :: vs, d :: ds, ps, hr, h, hp => by
  obtain ⟨p, q, h1, h2, rfl⟩ := h
  simp only [List.all_cons, Bool.and_eq_true] at hr
  refine ⟨p, q, WideElems.Trod_stays hl hr.1.1 (Nat.le_of_ble_eq_true hr.1.2) h1 (fun x hx => hB.same (hp x (by simp [hx])).1) (fun x hx => (hp x (by simp [hx])).2), ?_, rfl⟩
  exact zmd hl hB hr.2 h2 fun x hx => hp x (by simp [hx])
 | [], _ :: _, _, _, _, h, _ => h.elim
 | [], [], _ :: _, _, _, h, _ => h.elim
 | _ :: _, [], _, _, _, h, _ => h.elim
 | _ :: _, _ :: _, [], _, _, h, _ => h.elim
theorem law_contract {K : FuncId} {f : Func} {s : ChangeSpec} {apart fresh : Bool} {n : Nat} {tb : TypeId} (hl : laidOutB P = true) (hr : (f.params.toList.all fun t => P.readableRec t && Nat.blt t P.types.size) = true)
  (hd : f.params.toList.all (dataT P n) = true) (hvars : s.vars = []) (hres : f.resultTypes = #[tb]) (hb : P.underlying tb = some .bool)
  (hfn : ∀ ds : List (DataW H), ds.length = f.params.size -> s.fn H ds = { results := [.lit (.bool true)], args := ds })
  (hK : ∀ l, zkg P n f.params.toList l -> CallP P K l (.bool true)) {W : World} {base : Nat} {args : Array Value} {ds gs : List (DataW H)} {before : List MemPlace}
  (hval : ∀ (j : Nat) t v, f.params[j]? = some t -> args[j]? = some v -> Value.okWide P W .any base t v) (hW : DataW.Whole enc P f.params.toList s.vars apart W args.toList ds gs before) :
  Calls P K args W fun e W' => ∃ v, e = .returned v /\ s.post enc P f apart fresh false false W args v W' := by
 have hW' := hW
 obtain ⟨p, q, hA, hV, rfl, hfz, hnd⟩ := hW
 rw [hvars] at hV
 have hlen : ds.length = f.params.size := by
  have : ∀ {ts : List TypeId} {vs : List Value} {ds : List (DataW H)} {ps : List MemPlace}, DataW.TrodAll enc P W 0 (fun _ => true) true ts vs ds ps -> ds.length = ts.length := by
   intro ts
   induction ts with
   | nil => intro vs ds ps h; cases vs <;> cases ds <;> first | rfl | exact h.elim
   | cons t ts ih => intro vs ds ps h; cases vs <;> cases ds <;> first | (obtain ⟨_, _, _, h2, _⟩ := h; simp [ih h2]) | exact h.elim
  simpa using this hA
 have hgs : gs = [] /\ q = [] := by
  cases gs with
  | nil => exact ⟨rfl, hV⟩
  | cons g gs => exact hV.elim
 obtain ⟨rfl, rfl⟩ := hgs
 obtain ⟨l, h1, h2⟩ := znq (fr := W.heap.size) hd (fun j t v h h' => hval j t v (by simpa using h) (by simpa using h')) hA
 refine ((hK l h1).2 W _ h2).mono fun e W' ⟨v, he, hk, _, hv⟩ => ⟨v, he, ?_⟩
 simp only [rep] at hv
 subst hv
 have hB := hk.below
 have hlt := hW'.lt
 have hf := hfn ds hlen
 refine ⟨ds, [], p ++ [], [], p, [], hW', ?_, ?_, ?_, ?_, fun h => by cases h⟩
 ·rw [List.append_nil, hf, hres]
  exact ⟨[], [], ⟨1, by simp [DataW.trod, Value.cells, hb]⟩, rfl, rfl⟩
 ·rw [List.append_nil, hf]
  exact zmd hl hB hr hA fun x hx => ⟨hlt x (by simp [hx]), by simpa using hlt x (by simp [hx])⟩
 ·rw [List.append_nil, hf, hvars]
  rfl
 ·exact hB.frame _
end
theorem list_of {α : Type} {f : α -> D} {g : List D -> D} : ∀ (xs : List (List D)), (∀ x ∈ xs, ∃ y, g x = f y) -> ∃ l : List α, xs.map g = l.map f
 | [], _ => ⟨[], rfl⟩
 | x :: xs, h => by
  obtain ⟨y, hy⟩ := h x (by simp)
  obtain ⟨l, hl⟩ := list_of xs fun x hx => h x (by simp [hx])
  exact ⟨y :: l, by simp only [List.map_cons, hy, hl]⟩
section
variable {P : Program} {n : Nat} {t : TypeId} {l : List D}
theorem mkD_one {d : D} (ha : aggT P t = false) : mkD P t [d] = d := by simp only [mkD, ha, cond_false, List.headD_cons]
theorem typed_int {k : IntKind} (hu : P.underlying t = some (.int k)) (h : typed P (n + 1) t l) : ∃ m, l = [.int k m] := by
 rw [typed, hu] at h; exact h
theorem typed_str (hu : P.underlying t = some .string) (h : typed P (n + 1) t l) : ∃ s, l = [.str s] := by
 rw [typed, hu] at h; exact h
theorem typed_list {α : Type} (f : α -> D) {e : TypeId} {s : Nat} (hu : P.underlying t = some (.slice e)) (ha : aggT P t = false) (hc : P.cellsOf e = s) (hx : ∀ x, typed P n e x -> ∃ y, mkD P e x = f y) (h : typed P (n + 1) t l) :
  ∃ m : List α, mkD P t l = .imm s (m.map f) 4 := by
 rw [typed, hu] at h
 obtain ⟨xs, rfl, hxs⟩ := h
 obtain ⟨m, hm⟩ := list_of (f := f) (g := mkD P e) xs fun x hx' => hx x (hxs x hx')
 exact ⟨m, by rw [mkD_one ha, hm, hc]⟩
theorem typed_one {e : TypeId} (hu : P.underlying t = some (.slice e)) (h : typed P (n + 1) t l) : ∃ d, l = [d] := by
 rw [typed, hu] at h
 obtain ⟨xs, rfl, _⟩ := h
 exact ⟨_, rfl⟩
theorem zmc {ts : List TypeId} (h : zkg P n (t :: ts) l) : ∃ c r, l = mkD P t c :: r /\ typed P n t c /\ zkg P n ts r := h
theorem typedAll_nil (h : zkg P n [] l) : l = [] := h
end
end Go.Tm
end
section
namespace Go.Proofs.YtkananhhhkkpkaaGreat.orderPlays
open Go.ChangeShapes Go.WideShapes Go.RowKit Go.Tm
set_option maxRecDepth 100000
theorem own : ownKnob Tryz.prog.godebug = none := by kernel_rfl
theorem agg3 : aggT Tryz.prog 3 = false := by kernel_rfl
theorem agg22 : aggT Tryz.prog 22 = false := by kernel_rfl
theorem agg9 : aggT Tryz.prog 9 = false := by kernel_rfl
theorem cells9 : Tryz.prog.cellsOf 9 = 1 := by kernel_rfl
theorem tc22 {n : Nat} {l : List D} (h : typed Tryz.prog (n + 2) 22 l) : ∃ m : List (List UInt8), l = [.imm 1 (m.map D.str) 4] := by
 obtain ⟨d, hd⟩ := typed_one Tryz.underlying22 h
 obtain ⟨m, hm⟩ := typed_list D.str Tryz.underlying22 agg22 cells9 (fun x hx => by
  obtain ⟨a, ha⟩ := typed_str Tryz.underlying9 hx
  exact ⟨a, ha ▸ mkD_one agg9⟩) h
 rw [hd, mkD_one agg22] at hm
 exact ⟨m, by rw [hd, hm]⟩
theorem params3 : Tryz.f3.params.toList = [3, 22] := by kernel_rfl
theorem hK (l : List D) (h : zkg Tryz.prog 8 Tryz.f3.params.toList l) : CallP Tryz.prog 3 l (.bool true) := by
 rw [params3] at h
 obtain ⟨c0, r0, e0, h0, h⟩ := zmc h
 obtain ⟨c1, r1, e1, h1, h⟩ := zmc h
 have ez := typedAll_nil h
 obtain ⟨a0, f0⟩ := typed_int Tryz.underlying3 h0
 obtain ⟨a1, f1⟩ := tc22 (n := 6) h1
 rw [e0, e1, ez, f0, f1, mkD_one agg3, mkD_one agg22]
 exact zhf a0 a1 _ (plays_law a0 a1)
set_option maxRecDepth 100000 in
theorem lifted (os : Os) (started : os.Started) (H : Type) (enc : TypeId × Value -> H) :
  ReturnsInHanded {} Tryz.checked os 3 .any (Rows.orderPlaysSpec.pre6 enc Tryz.prog Tryz.f3 Rows.orderPlaysRow.domain false) (Rows.orderPlaysSpec.post enc Tryz.prog Tryz.f3 false true false false) := by
 refine returnsInHanded_of_change (C := Tryz.checked) own started (by kernel_rfl) Tryz.func3
  (ChangeSpec.witness6 (enc := enc) (C := Tryz.checked) false ⟨#[], #[.int .i64 0, .slice none 0 0], []⟩ 8 (by kernel_rfl) (by kernel_rfl) (by kernel_rfl) (by kernel_rfl)) ?_
 intro W base args ds gs before hval hW _ _
 exact law_contract (K := 3) (n := 8) (tb := 4) (by kernel_rfl) (by kernel_rfl) (by kernel_rfl) rfl rfl Tryz.underlying4 (fun ds h => by
  match ds, h with
  | [_, _], _ => rfl) hK hval hW
end Go.Proofs.YtkananhhhkkpkaaGreat.orderPlays
end

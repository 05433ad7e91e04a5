/- Texts of the proof. -/
import Derived.WideKeyArgs
import Derived.ChangeSame
import Derived.ChangeArms
import Derived.OpenShut
import Derived.Carry
import Derived.SizedLaws
import Derived.Test.YtafdfmkjjhimaaaGreatDoorRows
import Derived.WalkKit
import Derived.ProofKit
import Derived.Test.YtafdfmkjjhimaaaGreatDoorGroupGoesOnCardPn
import Derived.Test.YtafdfmkjjhimaaaGreatDoorGroupGoesOnCardPl
import Derived.Test.YtafdfmkjjhimaaaGreatDoorGroupGoesOnCardPm
import Derived.Test.YtafdfmkjjhimaaaGreatDoorGroupGoesOnCardPf
section
namespace Go.Proofs
open Go.Tm
set_option linter.unusedVariables false
open Classical
theorem ixI (f : Int -> Option Bool) (p : Int -> Bool) (hf : ∀ x, f x = some (p x)) : ∀ (l : List Int) (n : Nat), zax f l n = some (if l.any p then .inl ((n + (l.takeWhile fun x => !p x).length : Nat) : Int) else .inr ())
 | [], n => rfl
 | y :: r, n => by
  simp only [zax, hf, Option.bind_some, List.any_cons, List.takeWhile_cons]
  cases h : p y
  simp only [Bool.false_eq_true, if_false, Bool.false_or, Bool.not_false, if_true, List.length_cons]
  rw [ixI f p hf r (n + 1), Nat.add_assoc, Nat.add_comm 1]
  simp
theorem anyI (f : Int -> Option Bool) (p : Int -> Bool) (hf : ∀ x, f x = some (p x)) (l : List Int) : zbf l f = some (l.any p) := by
 unfold zbf zda
 rw [ixI f p hf]
 cases h : l.any p
 simp
 simp
theorem ixL (f : List Int -> Option Bool) (p : List Int -> Bool) (hf : ∀ x, f x = some (p x)) : ∀ (l : List (List Int)) (n : Nat), zav f l n = some (if l.any p then .inl ((n + (l.takeWhile fun x => !p x).length : Nat) : Int) else .inr ())
 | [], n => rfl
 | y :: r, n => by
  simp only [zav, hf, Option.bind_some, List.any_cons, List.takeWhile_cons]
  cases h : p y
  simp only [Bool.false_eq_true, if_false, Bool.false_or, Bool.not_false, if_true, List.length_cons]
  rw [ixL f p hf r (n + 1), Nat.add_assoc, Nat.add_comm 1]
  simp
theorem anyL (f : List Int -> Option Bool) (p : List Int -> Bool) (hf : ∀ x, f x = some (p x)) (l : List (List Int)) : zbp l f = some (l.any p) := by
 unfold zbp zcy
 rw [ixL f p hf]
 cases h : l.any p
 simp
 simp
theorem ixT (f : TTopic -> Option Bool) (p : TTopic -> Bool) (hf : ∀ x, f x = some (p x)) : ∀ (l : List TTopic) (n : Nat), zan f l n = some (if l.any p then .inl ((n + (l.takeWhile fun x => !p x).length : Nat) : Int) else .inr ())
 | [], n => rfl
 | y :: r, n => by
  simp only [zan, hf, Option.bind_some, List.any_cons, List.takeWhile_cons]
  cases h : p y
  simp only [Bool.false_eq_true, if_false, Bool.false_or, Bool.not_false, if_true, List.length_cons]
  rw [ixT f p hf r (n + 1), Nat.add_assoc, Nat.add_comm 1]
  simp
theorem anyT (f : TTopic -> Option Bool) (p : TTopic -> Bool) (hf : ∀ x, f x = some (p x)) (l : List TTopic) : zbg l f = some (l.any p) := by
 unfold zbg zch
 rw [ixT f p hf]
 cases h : l.any p
 simp
 simp
def ROk (r : List Int) : Prop := (r.length : Int) = 8 /\ ∀ x ∈ r, 0 <= x /\ x <= 1073741824
def COk (c : List (List Int)) : Prop := (c.length : Int) = 4 /\ ∀ r ∈ c, ROk r
theorem cc1 (x : Int) : zeu x = some (decide (x < 0) || decide (x > 1073741824)) := rfl
theorem cc2 (r : List Int) : zdz r = some (decide (¬ ROk r)) := by
 unfold zdz
 rw [anyI _ _ cc1]
 by_cases h : (r.length : Int) = 8
 rw [if_pos (by simpa using h)]
 simp only [Option.bind_some, h, bne_self_eq_false, Bool.false_or]
 congr 1
 rw [Bool.eq_iff_iff]
 simp only [List.any_eq_true, Bool.or_eq_true, decide_eq_true_eq, ROk, h, true_and]
 constructor
 rintro ⟨x, hx, hc⟩ hall
 have := hall x hx; omega
 intro hn
 apply Classical.byContradiction
 intro hno
 exact hn fun x hx => Classical.byContradiction fun hh => hno ⟨x, hx, by omega⟩
 rw [if_neg (by simpa using h)]
 simp only [Option.bind_some]
 congr 1
 have : ¬ ROk r := fun hh => h hh.1
 simp only [this, not_false_eq_true, decide_true]
 simp [h]
theorem ya38 (c : List (List Int)) : zev c = some (if COk c then 0 else 8) := by
 unfold zev
 rw [anyL _ _ cc2]
 by_cases h : (c.length : Int) = 4
 rw [if_pos (by simpa using h)]
 simp only [Option.bind_some, h, not_true_eq_false, false_or]
 by_cases ha : ∀ r ∈ c, ROk r
 have e : (c.any fun r => decide (¬ ROk r)) = false := by
  rw [List.any_eq_false]; intro r hr; simpa using ha r hr
 rw [e, if_neg (by simp), if_pos ⟨h, ha⟩]
 have e : (c.any fun r => decide (¬ ROk r)) = true := by
  rw [List.any_eq_true]
  apply Classical.byContradiction
  intro hno
  exact ha fun r hr => Classical.byContradiction fun hh => hno ⟨r, hr, by simpa using hh⟩
 rw [e, if_pos rfl, if_neg (fun hh => ha hh.2)]
 rw [if_neg (by simpa using h)]
 simp only [Option.bind_some, h, not_false_eq_true, true_or, if_true]
 rw [if_neg (fun hh => h hh.1)]
theorem ya6y (c : List (List Int)) (t w : Int) : zg1 c t w = some (if COk c then (if 0 <= t /\ t < 4 /\ 0 <= w /\ w < 8 then 0 else 2) else 8) := by
 unfold zg1
 rw [ya38]
 simp only [Option.bind_some]
 by_cases h : COk c
 rw [if_pos h, if_neg (by simp), if_pos h]
 by_cases hb : 0 <= t /\ t < 4 /\ 0 <= w /\ w < 8
 rw [if_neg (by omega), if_pos hb]
 rw [if_pos (by omega), if_neg hb]
 rw [if_neg h, if_pos (by decide), if_neg h]
theorem ctl : ∀ (c l : List (List Int)), (∀ r ∈ c, (r.length : Int) = 8) -> l.length + c.length < 1000000 -> zbo c l = some (l ++ c)
 | [], l, _, _ => by rw [ze5, List.append_nil]
 | y :: r, l, h, hl => by
  simp only [List.length_cons] at hl
  have := h y (List.mem_cons_self ..)
  rw [ze6, if_pos (by omega), if_pos (by simp only [List.length_cons, List.length_nil]; omega), ctl r (l ++ [y]) (fun z hz => h z (List.mem_cons_of_mem _ hz)) (by simp only [List.length_append, List.length_cons, List.length_nil]; omega)]
  simp
theorem ya6v {c : List (List Int)} (h : COk c) : zd0 c = some c := by
 unfold zd0
 rw [ctl c [] (fun r hr => (h.2 r hr).1) (by have := h.1; simp only [List.length_nil]; omega)]
 rfl
theorem zm3 {α : Type} (d : α) : ∀ (l : List α) (i : Nat), i < l.length -> l.getD i d ∈ l
 | [], _, h => by simp at h
 | y :: r, 0, _ => by simp
 | y :: r, i + 1, h => by
  rw [List.getD_cons_succ]
  exact List.mem_cons_of_mem _ (zm3 d r i (Nat.lt_of_succ_lt_succ h))
theorem zqq {α : Type} {l : List α} {i : Nat} {a x : α} (h : x ∈ l.set i a) : x = a \/ x ∈ l := by
 induction l generalizing i with
 | nil => simp at h
 | cons y r ih =>
  cases i with
  | zero =>
   rw [List.set_cons_zero] at h
   rcases List.mem_cons.1 h with e | e
   exact .inl e
   exact .inr (List.mem_cons_of_mem _ e)
  | succ i =>
   rw [List.set_cons_succ] at h
   rcases List.mem_cons.1 h with e | e
   exact .inr (by rw [e]; exact List.mem_cons_self ..)
   rcases ih e with e | e
   exact .inl e
   exact .inr (List.mem_cons_of_mem _ e)
theorem zps {α : Type} (d a : α) : ∀ (l : List α) (i j : Nat), i < l.length -> (l.set i a).getD j d = if j = i then a else l.getD j d
 | [], _, _, h => by simp at h
 | y :: r, 0, 0, _ => by simp
 | y :: r, 0, j + 1, _ => by simp
 | y :: r, i + 1, 0, _ => by simp
 | y :: r, i + 1, j + 1, h => by
  simp only [List.set_cons_succ, List.getD_cons_succ, Nat.add_right_cancel_iff]
  exact zps d a r i j (by simpa using h)
def setC (c : List (List Int)) (t w n : Int) : List (List Int) := c.set t.toNat ((c.getD t.toNat default).set w.toNat (max ((c.getD t.toNat default).getD w.toNat default) n))
theorem COk.set {c : List (List Int)} (h : COk c) {t w n : Int} (ht : 0 <= t /\ t < 4) (hw : 0 <= w /\ w < 8) (hn : 0 <= n /\ n <= 1073741824) : COk (setC c t w n) := by
 have hl := h.1
 have hr := h.2 _ (zm3 default c t.toNat (by omega))
 have hx := hr.2 _ (zm3 default (c.getD t.toNat default) w.toNat (by have := hr.1; omega))
 refine ⟨by unfold setC; rw [List.length_set]; exact hl, fun r hm => ?_⟩
 rcases zqq hm with rfl | hm
 refine ⟨by rw [List.length_set]; exact hr.1, fun x hxm => ?_⟩
 rcases zqq hxm with rfl | hxm
 omega
 exact hr.2 x hxm
 exact h.2 r hm
theorem ya4m (c : List (List Int)) (t w n : Int) : ∃ r, zh8 c t w n = some r /\ (r.2 = 0 -> COk c /\ (0 <= t /\ t < 4) /\ (0 <= w /\ w < 8) /\ (0 <= n /\ n <= 1073741824) /\ r = (setC c t w n, 0)) /\ (r.2 ≠ 0 -> r.1 = []) /\
  (COk c -> 0 <= t /\ t < 4 -> 0 <= w /\ w < 8 -> 0 <= n /\ n <= 1073741824 -> r.2 = 0) := by
 unfold zh8
 rw [ya6y]
 simp only [Option.bind_some]
 by_cases h : COk c
 rw [if_pos h]
 by_cases hb : 0 <= t /\ t < 4 /\ 0 <= w /\ w < 8
 rw [if_pos hb, if_neg (by simp)]
 by_cases hn : n < 0 \/ n > 1073741824
 rw [if_pos hn]
 exact ⟨_, rfl, fun h => absurd h (by decide), fun _ => rfl, fun _ _ _ k => absurd hn (by omega)⟩
 rw [if_neg hn, ya6v h]
 simp only [Option.bind_some]
 have hl := h.1
 have hr := (h.2 _ (zm3 default c t.toNat (by omega))).1
 rw [if_pos (by omega)]
 exact ⟨_, rfl, fun _ => ⟨h, by omega, by omega, by omega, rfl⟩, fun h => absurd rfl h, fun _ _ _ _ => rfl⟩
 rw [if_neg hb, if_pos (by decide)]
 exact ⟨_, rfl, fun h => absurd h (by decide), fun _ => rfl, fun _ a b _ => absurd ⟨a.1, a.2, b.1, b.2⟩ hb⟩
 rw [if_neg h, if_pos (by decide)]
 exact ⟨_, rfl, fun h => absurd h (by decide), fun _ => rfl, fun h' => absurd h' h⟩
theorem zxh (l : List Int) (hl : l.length < 1000000) : ∀ (fu k : Nat) (n2 : Int), l.length - k < fu -> k <= l.length -> ∃ v, zb8 l fu n2 (k : Int) = some v /\ ∀ N, v <= N ↔ n2 <= N /\ ∀ x ∈ l.drop k, x <= N
 | 0, k, n2, h, _ => by omega
 | fu + 1, k, n2, h, hk => by
  simp only [zb8]
  by_cases hc : (k : Int) < (l.length : Int)
  rw [if_pos hc, if_pos (by omega), wrk _ (by omega)]
  have hk' : k < l.length := by omega
  obtain ⟨v, e, hv⟩ := zxh l hl fu (k + 1) (max n2 (l.getD ((k : Int)).toNat default)) (by omega) (by omega)
  refine ⟨v, by simpa using e, fun N => ?_⟩
  rw [hv, List.drop_eq_getElem_cons hk']
  have hg : l.getD ((k : Int)).toNat default = l[k] := by simp [List.getD_eq_getElem?_getD, hk']
  rw [hg]
  simp only [List.mem_cons, forall_eq_or_imp]
  constructor
  rintro ⟨a, b⟩; exact ⟨by omega, by omega, b⟩
  rintro ⟨a, b, c⟩; exact ⟨by omega, c⟩
  rw [if_neg hc]
  have : k = l.length := by omega
  subst this
  exact ⟨n2, rfl, fun N => by simp⟩
theorem ya6h (l : List Int) (h0 : l ≠ []) (hl : l.length < 1000000) : ∃ v, zds l = some v /\ ∀ N, v <= N ↔ ∀ x ∈ l, x <= N := by
 unfold zds
 have hpos : 0 < l.length := List.length_pos_iff.2 h0
 rw [if_neg (by omega), if_pos hpos]
 obtain ⟨v, e, hv⟩ := zxh l hl (l.length + 1) 1 (l.getD 0 default) (by omega) (by omega)
 have e' : zb8 l (l.length + 1) (l.getD 0 default) 1 = some v := e
 rw [e']
 refine ⟨v, rfl, fun N => ?_⟩
 rw [hv]
 match l, h0 with
 | y :: r, _ => simp
structure StOk (s : TStream) : Prop where
 tl : (s.Topics.length : Int) = 4
 t : ∀ t ∈ s.Topics, TOk t
 c : COk s.Commits
 n : ∀ i : Nat, i < 4 -> ∀ x ∈ s.Commits.getD i default, x <= (s.Topics.getD i default).Next
theorem sc1 (t : TTopic) : ze7 t = some (decide (¬ TOk t)) := by
 unfold ze7
 rw [zx0]
 by_cases h : TOk t
 simp [h]
 simp [h]
theorem ya60 (s : TStream) : ∀ (l : List (List Int)) (n : Nat), (∀ r ∈ l, ROk r) -> n + l.length <= s.Topics.length ->
  zbu s l n = some (if ∀ i : Nat, i < l.length -> ∀ x ∈ l.getD i default, x <= (s.Topics.getD (n + i) default).Next then .inr () else .inl 8)
 | [], n, _, _ => by simp [zbu]
 | y :: r, n, h, hl => by
  simp only [List.length_cons] at hl
  have hy := (h y (List.mem_cons_self ..)).1
  obtain ⟨v, e, hv⟩ := ya6h y (by rintro rfl; simp at hy) (by omega)
  simp only [zbu, e, Option.bind_some]
  rw [if_pos (by omega)]
  by_cases hc : v > (s.Topics.getD n default).Next
  rw [if_pos hc, if_neg]
  intro hall
  have h0 := hall 0 (by simp)
  simp only [List.getD_cons_zero, Nat.add_zero] at h0
  have := (hv _).2 h0
  omega
  rw [if_neg hc, ya60 s r (n + 1) (fun z hz => h z (List.mem_cons_of_mem _ hz)) (by omega)]
  have h0 := (hv (s.Topics.getD n default).Next).1 (by omega)
  have e : (∀ i : Nat, i < r.length -> ∀ x ∈ r.getD i default, x <= (s.Topics.getD (n + 1 + i) default).Next) ↔ (∀ i : Nat, i < (y :: r).length -> ∀ x ∈ (y :: r).getD i default, x <= (s.Topics.getD (n + i) default).Next) := by
   constructor
   intro hh i hi
   cases i with
   | zero => simpa using h0
   | succ i =>
    have := hh i (by simpa using hi)
    rw [List.getD_cons_succ]
    intro x hx
    have := this x hx
    rwa [show n + (i + 1) = n + 1 + i by omega]
   intro hh i hi x hx
   have := hh (i + 1) (by simpa using hi) x (by rw [List.getD_cons_succ]; exact hx)
   rwa [show n + (i + 1) = n + 1 + i by omega] at this
  by_cases hh : ∀ i : Nat, i < r.length -> ∀ x ∈ r.getD i default, x <= (s.Topics.getD (n + 1 + i) default).Next
  rw [if_pos hh, if_pos (e.1 hh)]
  rw [if_neg hh, if_neg (fun k => hh (e.2 k))]
theorem ya31 (s : TStream) : zfk s = some (if StOk s then 0 else 8) := by
 unfold zfk
 rw [anyT _ _ sc1, ya38]
 by_cases h : (s.Topics.length : Int) = 4
 simp only [h, not_true_eq_false, not_false_eq_true, if_true, Option.bind_some, false_or]
 by_cases ht : ∀ t ∈ s.Topics, TOk t
 have e : (s.Topics.any fun t => decide (¬ TOk t)) = false := by
  rw [List.any_eq_false]; intro r hr; simpa using ht r hr
 rw [e]
 simp only [Bool.false_eq_true, not_false_eq_true, if_true, Option.bind_some, false_or]
 by_cases hc : COk s.Commits
 rw [if_pos hc, if_neg (by simp)]
 have hcl := hc.1
 rw [ya60 s s.Commits 0 hc.2 (by omega)]
 simp only [Option.bind_some, Nat.zero_add]
 by_cases hn : ∀ i : Nat, i < s.Commits.length -> ∀ x ∈ s.Commits.getD i default, x <= (s.Topics.getD i default).Next
 rw [if_pos hn, if_pos ⟨h, ht, hc, fun i hi => hn i (by omega)⟩]
 rw [if_neg hn, if_neg (fun hh => hn fun i hi => hh.n i (by omega))]
 rw [if_neg hc, if_pos (by decide), if_neg (fun hh => hc hh.c)]
 have e : (s.Topics.any fun t => decide (¬ TOk t)) = true := by
  rw [List.any_eq_true]
  apply Classical.byContradiction
  intro hno
  exact ht fun r hr => Classical.byContradiction fun hh => hno ⟨r, hr, by simpa using hh⟩
 rw [e]
 simp only [not_true_eq_false, if_false, Option.bind_some, true_or, if_true]
 rw [if_neg (fun hh => ht hh.t)]
 simp only [h, not_false_eq_true, not_true_eq_false, if_false, Option.bind_some, true_or, if_true]
 rw [if_neg (fun hh => h hh.tl)]
theorem ya32 (s : TStream) (t : Int) : zfj s t = some (if StOk s then (if 0 <= t /\ t < 4 then 0 else 2) else 8) := by
 unfold zfj
 rw [ya31]
 simp only [Option.bind_some]
 by_cases h : StOk s
 rw [if_pos h, if_neg (by simp), if_pos h]
 by_cases hb : 0 <= t /\ t < 4
 rw [if_neg (by omega), if_pos hb]
 rw [if_pos (by omega), if_neg hb]
 rw [if_neg h, if_pos (by decide), if_neg h]
theorem ya74 {t : TTopic} (h : TOk t) : zc2 t = some t := by
 have := h.len
 simp only [zc2, zb0]
 rw [if_pos (by omega)]
 rfl
theorem stl : ∀ (c l : List TTopic), (∀ r ∈ c, TOk r) -> l.length + c.length < 1000000 -> zcr c l = some (l ++ c)
 | [], l, _, _ => by rw [zhz, List.append_nil]
 | y :: r, l, h, hl => by
  simp only [List.length_cons] at hl
  rw [zi0, ya74 (h y (List.mem_cons_self ..)), Option.bind_some, if_pos (by simp only [List.length_cons, List.length_nil]; omega), stl r (l ++ [y]) (fun z hz => h z (List.mem_cons_of_mem _ hz)) (by simp only [List.length_append, List.length_cons, List.length_nil]; omega)]
  simp
theorem ya3l {s : TStream} (h : StOk s) : zec s = some s := by
 unfold zec
 rw [ya6v h.c]
 simp only [Option.bind_some]
 rw [stl s.Topics [] h.t (by have := h.tl; simp only [List.length_nil]; omega)]
 rfl
theorem ya3k {s : TStream} (h : StOk s) {i : Int} (hi : 0 <= i /\ i < 4) (t : TTopic) : zf4 s i t = some ⟨s.Topics.set i.toNat t, s.Commits⟩ := by
 unfold zf4
 rw [ya3l h]
 simp only [Option.bind_some]
 rw [if_pos (by have := h.tl; omega)]
theorem StOk.with {s : TStream} (h : StOk s) {i : Int} (hi : 0 <= i /\ i < 4) {t : TTopic} (ht : TOk t) (hn : (s.Topics.getD i.toNat default).Next <= t.Next) : StOk ⟨s.Topics.set i.toNat t, s.Commits⟩ := by
 have tl := h.tl
 refine ⟨by show ((s.Topics.set i.toNat t).length : Int) = 4; rw [List.length_set]; exact tl, fun z hz => ?_, h.c, fun j hj x hx => ?_⟩
 rcases zqq hz with rfl | hz
 exact ht
 exact h.t z hz
 have := h.n j hj x hx
 show x <= ((s.Topics.set i.toNat t).getD j default).Next
 rw [zps _ _ _ _ _ (by omega)]
 split
 rename_i e; subst e; omega
 exact this
def zSt : TStream := ⟨[], []⟩
theorem ya65 (s : TStream) (m : TMessage) : ∃ r, zfx s m = some r /\ (r.2.2 = 0 -> StOk s /\ (0 <= m.Topic /\ m.Topic < 4) /\ StOk r.1 /\ r = (⟨s.Topics.set m.Topic.toNat (addT (s.Topics.getD m.Topic.toNat default) m.Id m.Key m.Body), s.Commits⟩, (s.Topics.getD m.Topic.toNat default).Next, 0)) /\ (r.2.2 ≠ 0 -> r.1 = zSt /\ r.2.1 = 0) := by
 unfold zfx
 rw [ya32]
 simp only [Option.bind_some]
 by_cases h : StOk s
 rw [if_pos h]
 have tl := h.tl
 by_cases hb : 0 <= m.Topic /\ m.Topic < 4
 rw [if_pos hb, if_neg (by simp), if_pos (by omega)]
 obtain ⟨r, e, h1, h2, _⟩ := ya71 (s.Topics.getD m.Topic.toNat default) m.Id m.Key m.Body
 rw [e]
 simp only [Option.bind_some]
 by_cases h0 : r.2.2 = 0
 rw [if_neg (by omega)]
 obtain ⟨k1, k2, k3, k4, k5⟩ := h1 h0
 rw [ya3k h hb, k5]
 refine ⟨_, rfl, fun _ => ⟨h, hb, h.with hb (k1.add k2 k3 k4) ?_, rfl⟩, fun h => absurd rfl h⟩
 show _ <= (s.Topics.getD m.Topic.toNat default).Next + 1
 omega
 rw [if_pos h0]
 exact ⟨_, rfl, fun h => absurd h h0, fun _ => ⟨rfl, rfl⟩⟩
 rw [if_neg hb, if_pos (by decide)]
 exact ⟨_, rfl, fun h => absurd h (by decide), fun _ => ⟨rfl, rfl⟩⟩
 rw [if_neg h, if_pos (by decide)]
 exact ⟨_, rfl, fun h => absurd h (by decide), fun _ => ⟨rfl, rfl⟩⟩
theorem ya14 (s : TStream) (c : TCommand) (h : StOk s) (hb : 0 <= c.Topic /\ c.Topic < 4) : ∃ r, zfw s c = some r /\ (r.2 = 0 -> StOk r.1) /\ (r.2 ≠ 0 -> r.1 = zSt) := by
 unfold zfw
 have tl := h.tl
 by_cases h1 : ((c.Who < 0 \/ c.Who >= 8) \/ c.N < 0) \/ c.N > 1073741824
 rw [if_pos h1]
 exact ⟨_, rfl, fun h => absurd h (by decide), fun _ => rfl⟩
 rw [if_neg h1, if_pos (by omega)]
 by_cases h2 : c.N > (s.Topics.getD c.Topic.toNat default).Next
 rw [if_pos h2]
 exact ⟨_, rfl, fun h => absurd h (by decide), fun _ => rfl⟩
 rw [if_neg h2, ya3l h]
 simp only [Option.bind_some]
 obtain ⟨r, e, k1, k2, k3⟩ := ya4m s.Commits c.Topic c.Who c.N
 rw [e]
 obtain ⟨-, -, -, -, k5⟩ := k1 (k3 h.c hb (by omega) (by omega))
 rw [k5]
 refine ⟨_, rfl, fun _ => ⟨tl, h.t, h.c.set hb (by omega) (by omega), fun i hi x hx => ?_⟩, fun h => absurd rfl h⟩
 have hcl := h.c.1
 have hr := h.c.2 _ (zm3 default s.Commits c.Topic.toNat (by omega))
 have hx' : x ∈ (s.Commits.set c.Topic.toNat ((s.Commits.getD c.Topic.toNat default).set c.Who.toNat (max ((s.Commits.getD c.Topic.toNat default).getD c.Who.toNat default) c.N))).getD i default := hx
 rw [zps _ _ _ _ _ (by omega)] at hx'
 show x <= (s.Topics.getD i default).Next
 split at hx'
 rename_i ei
 subst ei
 rcases zqq hx' with rfl | hx'
 have := h.n c.Topic.toNat hi _ (zm3 default (s.Commits.getD c.Topic.toNat default) c.Who.toNat (by have := hr.1; omega))
 omega
 exact h.n _ hi x hx'
 exact h.n _ hi x hx'
theorem ya7h (s : TStream) (c : TCommand) : ∃ r, zjd s c = some r /\ (r.2 = 0 -> StOk r.1) /\ (r.2 ≠ 0 -> r.1 = zSt) := by
 unfold zjd
 rw [ya32]
 simp only [Option.bind_some]
 by_cases h : StOk s
 rw [if_pos h]
 have tl := h.tl
 by_cases hb : 0 <= c.Topic /\ c.Topic < 4
 rw [if_pos hb, if_neg (by simp)]
 by_cases k4 : c.Kind = 4
 rw [if_pos k4]
 obtain ⟨r, e, h1, h2⟩ := ya14 s c h hb
 rw [e]
 exact ⟨_, rfl, h1, h2⟩
 rw [if_neg k4]
 by_cases k5 : c.Kind = 5
 rw [if_pos k5, if_pos (by omega)]
 obtain ⟨r, e, h1, h2, _⟩ := ya3f (s.Topics.getD c.Topic.toNat default) c.N
 rw [e]
 simp only [Option.bind_some]
 by_cases h0 : r.2 = 0
 rw [if_neg (by omega)]
 obtain ⟨j1, j2, j3, j4⟩ := h1 h0
 rw [ya3k h hb, j4]
 exact ⟨_, rfl, fun _ => h.with hb (j1.trim j2) (Int.le_refl _), fun h => absurd rfl h⟩
 rw [if_pos h0]
 exact ⟨_, rfl, fun h => absurd h h0, fun _ => rfl⟩
 rw [if_neg k5]
 by_cases k6 : c.Kind = 6
 rw [if_pos k6, if_pos (by omega)]
 obtain ⟨r, e, h1, h2, _⟩ := ya4o (s.Topics.getD c.Topic.toNat default) c.N
 rw [e]
 simp only [Option.bind_some]
 by_cases h0 : r.2 = 0
 rw [if_neg (by omega)]
 obtain ⟨j1, j2, j3, j4⟩ := h1 h0
 rw [ya3k h hb, j4]
 exact ⟨_, rfl, fun _ => h.with hb (j1.comp j2) (Int.le_refl _), fun h => absurd rfl h⟩
 rw [if_pos h0]
 exact ⟨_, rfl, fun h => absurd h h0, fun _ => rfl⟩
 rw [if_neg k6]
 exact ⟨_, rfl, fun h => absurd h (by decide), fun _ => rfl⟩
 rw [if_neg hb, if_pos (by decide)]
 exact ⟨_, rfl, fun h => absurd h (by decide), fun _ => rfl⟩
 rw [if_neg h, if_pos (by decide)]
 exact ⟨_, rfl, fun h => absurd h (by decide), fun _ => rfl⟩
structure HOk (h : THome) : Prop where
 v : V h.Skeen
 s : StOk h.Stream
 l : (h.Last.length : Int) = 6
 x : ∀ x ∈ h.Last, 0 <= x /\ x <= 1048576
def zHo : THome := ⟨⟨0, [], []⟩, ⟨[], []⟩, []⟩
theorem gc1 (x : Int) : zg0 x = some (decide (x < 0) || decide (x > 1048576)) := rfl
theorem ya0u (h : THome) : zf8 h = some (if HOk h then 0 else 8) := by
 unfold zf8
 obtain ⟨e, he, hi⟩ := zx1 h.Skeen
 rw [he, ya31, anyI _ _ gc1]
 simp only [Option.bind_some]
 by_cases hv : e = 0
 simp only [hv, not_true_eq_false, not_false_eq_true, if_true, Option.bind_some, false_or]
 by_cases hs : StOk h.Stream
 simp only [hs, if_true, not_true_eq_false, false_or]
 by_cases hl : (h.Last.length : Int) = 6
 simp only [hl, not_true_eq_false, not_false_eq_true, if_true, Option.bind_some, false_or]
 by_cases hx : ∀ x ∈ h.Last, 0 <= x /\ x <= 1048576
 have ea : (h.Last.any fun x => decide (x < 0) || decide (x > 1048576)) = false := by
  rw [List.any_eq_false]; intro x hm; have := hx x hm; simp; omega
 rw [ea, if_neg (by decide), if_pos ⟨hi.1 hv, hs, hl, hx⟩]
 have ea : (h.Last.any fun x => decide (x < 0) || decide (x > 1048576)) = true := by
  rw [List.any_eq_true]
  apply Classical.byContradiction
  intro hno
  exact hx fun x hm => Classical.byContradiction fun hh => hno ⟨x, hm, by simp; omega⟩
 rw [ea, if_pos rfl, if_neg (fun hh => hx hh.x)]
 simp only [hl, not_true_eq_false, not_false_eq_true, if_false, Option.bind_some, true_or, if_true]
 rw [if_neg (fun hh => hl hh.l)]
 simp only [hs, if_false]
 rw [if_neg (by simp)]
 simp only [Option.bind_some]
 rw [if_pos (by simp), if_neg (fun hh => hs hh.s)]
 simp only [hv, not_false_eq_true, not_true_eq_false, if_false, Option.bind_some, true_or, if_true]
 rw [if_neg (fun hh => hv (hi.2 hh.v))]
theorem ya6o {h : THome} (k : HOk h) : zfy h = some h := by
 have hlw := k.v.lw; have hld := k.v.ld
 have htw : zef h.Skeen = some h.Skeen := zzn h.Skeen (by omega) (by omega) (fun w hw => by have := (k.v.j.w.1 w hw).1.groups; omega)
 unfold zfy
 rw [htw, ya3l k.s, zro _ (by have := k.l; omega)]
 rfl
theorem zlo {α : Type} (d : α) {b : List α} {y : α} {r : List α} {n : Nat} (h : y :: r = b.drop n) : n < b.length /\ b.getD n d = y /\ r = b.drop (n + 1) := by
 have hn : n < b.length := Classical.byContradiction fun hh => by rw [List.drop_eq_nil_of_le (by omega)] at h; cases h
 rw [List.drop_eq_getElem_cons hn] at h
 obtain ⟨rfl, rfl⟩ := List.cons.inj h
 exact ⟨hn, by simp [List.getD_eq_getElem?_getD, hn], rfl⟩
theorem zxz (b : List TStamp) : ∀ (l : List TStamp) (n : Nat), l = b.drop n -> zay b l n = some (.inr ())
 | [], _, _ => rfl
 | y :: r, n, h => by
  obtain ⟨h1, h2, h3⟩ := zlo default h
  simp only [zay]
  rw [if_pos h1, h2, if_neg (by simp)]
  exact zxz b r (n + 1) h3
theorem zy1 (b : List TEntry) : ∀ (l : List TEntry) (n : Nat), l = b.drop n -> zaz b l n = some (.inr ())
 | [], _, _ => rfl
 | y :: r, n, h => by
  obtain ⟨h1, h2, h3⟩ := zlo default h
  simp only [zaz]
  rw [if_pos h1, h2, if_neg (by simp)]
  exact zy1 b r (n + 1) h3
theorem zxx (f : TWait -> TWait -> Option Bool) (hf : ∀ x, f x x = some true) (b : List TWait) : ∀ (l : List TWait) (n : Nat), l = b.drop n -> zad b f l n = some (.inr ())
 | [], _, _ => rfl
 | y :: r, n, h => by
  obtain ⟨h1, h2, h3⟩ := zlo default h
  simp only [zad]
  rw [if_pos h1, h2, hf]
  simp only [Option.bind_some, not_true_eq_false, if_false]
  exact zxx f hf b r (n + 1) h3
theorem zxy (f : TTopic -> TTopic -> Option Bool) (hf : ∀ x, f x x = some true) (b : List TTopic) : ∀ (l : List TTopic) (n : Nat), l = b.drop n -> zaa b f l n = some (.inr ())
 | [], _, _ => rfl
 | y :: r, n, h => by
  obtain ⟨h1, h2, h3⟩ := zlo default h
  simp only [zaa]
  rw [if_pos h1, h2, hf]
  simp only [Option.bind_some, not_true_eq_false, if_false]
  exact zxy f hf b r (n + 1) h3
theorem zy0 (f : List Int -> List Int -> Option Bool) (hf : ∀ x, f x x = some true) (b : List (List Int)) : ∀ (l : List (List Int)) (n : Nat), l = b.drop n -> zaf b f l n = some (.inr ())
 | [], _, _ => rfl
 | y :: r, n, h => by
  obtain ⟨h1, h2, h3⟩ := zlo default h
  simp only [zaf]
  rw [if_pos h1, h2, hf]
  simp only [Option.bind_some, not_true_eq_false, if_false]
  exact zy0 f hf b r (n + 1) h3
theorem ya1t (s : TSkeen) : zi1 s s = some true := by
 unfold zi1 zdb zbk
 rw [zxz s.Done s.Done 0 rfl, zxx zfl (fun x => by simp [zfl, ya5z]) s.Waits s.Waits 0 rfl]
 simp
theorem ya1q (t : TTopic) : zfv t t = some true := by
 unfold zfv zdc
 rw [zy1 t.Entries t.Entries 0 rfl]
 simp
theorem ya2r (c : List (List Int)) : zgk c c = some true := by
 unfold zgk zbt
 rw [zy0 ze8 (fun x => by simp [ze8, zpt]) c c 0 rfl]
 simp
theorem ya1s (s : TStream) : zh3 s s = some true := by
 unfold zh3 zba
 rw [zxy zfv ya1q s.Topics s.Topics 0 rfl, ya2r]
 simp
theorem ya4a (h : THome) : zf0 h h = some true := by
 unfold zf0
 rw [ya1t, ya1s, zpt]
 simp
theorem ya4q (c : TCommand) (h : zar c = some 0) (hk : 4 <= c.Kind) : IdOk c.Id := by
 by_cases hi : IdOk c.Id
 exact hi
 exfalso
 rw [zar, zew, zy9] at h
 have k0 : ¬ c.Kind = 0 := by omega
 have k1 : ¬ c.Kind = 1 := by omega
 have k2 : ¬ c.Kind = 2 := by omega
 have k3 : ¬ c.Kind = 3 := by omega
 simp only [hi, k0, k1, k2, k3, decide_false, Bool.false_eq_true, if_false, false_and, Option.bind_some, Bool.false_and] at h
 by_cases k4 : c.Kind = 4
 simp [k4] at h
 by_cases k5 : c.Kind = 5
 simp [k5] at h
 by_cases k6 : c.Kind = 6
 simp [k6] at h
 simp [k4, k5, k6] at h
theorem of_eq (x : Int) (h : IdOk x) : zk6 x = some (x / 1048576, x % 1048576, 0) /\ 0 <= x / 1048576 /\ x / 1048576 < 6 /\ 0 <= x % 1048576 /\ x % 1048576 < 1048576 := by
 unfold IdOk at h
 have a1 : x.tdiv 1048576 = x / 1048576 := Int.tdiv_eq_ediv_of_nonneg h.1
 have a2 : x.tmod 1048576 = x % 1048576 := Int.tmod_eq_emod_of_nonneg h.1
 unfold zk6
 rw [if_neg (by omega), a1, a2, wrk _ (by omega)]
 exact ⟨rfl, by omega, by omega, by omega, by omega⟩
def at6 (h : THome) (x : Int) : Int := h.Last.getD (x / 1048576).toNat default
theorem HOk.put {h : THome} (k : HOk h) (s : TStream) (hs : StOk s) (i : Nat) (hi : i < 6) (v : Int) (hv : 0 <= v /\ v <= 1048576) : HOk ⟨h.Skeen, s, h.Last.set i v⟩ := by
 refine ⟨k.v, hs, by show ((h.Last.set i v).length : Int) = 6; rw [List.length_set]; exact k.l, fun x hx => ?_⟩
 rcases zqq hx with rfl | hx
 exact hv
 exact k.x x hx
theorem ya69 (h : THome) (k : HOk h) (c : TCommand) (hi : IdOk c.Id) : ∃ h', zcg ⟨h⟩ c = some ⟨h'⟩ /\ HOk h' /\ at6 h' c.Id > c.Id % 1048576 /\ (at6 h c.Id > c.Id % 1048576 -> h' = h) := by
 obtain ⟨e, o1, o2, o3, o4⟩ := of_eq c.Id hi
 have hl := k.l
 unfold zcg
 rw [e]
 simp only [Option.bind_some]
 rw [if_pos (by omega)]
 by_cases hc : h.Last.getD (c.Id / 1048576).toNat default > c.Id % 1048576
 rw [if_pos hc]
 exact ⟨h, rfl, k, hc, fun _ => rfl⟩
 rw [if_neg hc, if_pos (by omega)]
 obtain ⟨r, er, h1, h2⟩ := ya7h h.Stream c
 rw [er, wrk _ (by omega)]
 simp only [Option.bind_some]
 have hg : ∀ s : TStream, at6 ⟨h.Skeen, s, h.Last.set (c.Id / 1048576).toNat (c.Id % 1048576 + 1)⟩ c.Id > c.Id % 1048576 := by
  intro s
  show (h.Last.set (c.Id / 1048576).toNat (c.Id % 1048576 + 1)).getD (c.Id / 1048576).toNat default > _
  rw [zps _ _ _ _ _ (by omega), if_pos rfl]
  omega
 by_cases h0 : r.2 = 0
 rw [if_pos h0]
 exact ⟨_, rfl, k.put _ (h1 h0) _ (by omega) _ (by omega), hg _, fun hh => absurd hh hc⟩
 rw [if_neg h0]
 exact ⟨_, rfl, k.put _ k.s _ (by omega) _ (by omega), hg _, fun hh => absurd hh hc⟩
end Go.Proofs
end
section
namespace Go.Proofs
open Go.Tm
set_option linter.unusedSimpArgs false
theorem ya40 (n : Int) : ∃ b, zni n = some b /\ (b = true -> 0 <= n /\ n <= 1099511627776) := by
 rw [zni]
 refine ⟨_, rfl, fun h => ?_⟩
 simp at h
 omega
structure GetOk (l : List Int) (r : Int × Int × Int) : Prop where
 s0 : 0 <= r.2.1
 s1 : r.2.1 <= l.length
 n0 : r.2.2 = 0 -> 0 <= r.1 /\ r.1 <= 1099511627776
theorem ya2g : ∀ (l : List Int) (k : Nat) (n : Int), (∃ u, zdn l k n = some (.inr u)) \/ ∃ a b, zdn l k n = some (.inl (a, b, 0)) /\ 0 <= b /\ b <= k + l.length /\ 0 <= a /\ a <= 1099511627776 := by
 intro l
 induction l with
 | nil => intro k n; exact .inl ⟨(), rfl⟩
 | cons y l ih =>
  intro k n
  rw [zdn]
  by_cases h5 : (k : Int) > 5
  rw [if_pos h5]; exact .inl ⟨(), rfl⟩
  rw [if_neg h5, if_pos (by rw [wrk _ (by omega)]; omega)]
  by_cases h7 : y > 127
  rw [if_pos h7]
  rcases ih (k + 1) _ with h | ⟨a, b, h, h1, h2, h3⟩
  exact .inl h
  exact .inr ⟨a, b, h, h1, by simp only [List.length_cons]; omega, h3⟩
  rw [if_neg h7]
  by_cases h0 : y = 0 /\ (k : Int) > 0
  rw [if_neg (fun h => h h0)]
  simp only [Option.bind_some]
  rw [if_pos (.inl h0)]
  exact .inl ⟨(), rfl⟩
  rw [if_pos h0]
  obtain ⟨b, hb, hb2⟩ := ya40 (bitw .or .i64 n (shw true .i64 (wr .i64 (bitw .and .u8 y 127)) (wr .i64 (7 * (k : Int)))))
  rw [hb]
  simp only [Option.bind_some]
  by_cases hbt : b = true
  rw [if_neg (by rintro (h | h); exact h0 h; exact h hbt), wrk ((k : Int) + 1) (by omega)]
  exact .inr ⟨_, _, rfl, by omega, by simp only [List.length_cons]; omega, hb2 hbt⟩
  rw [if_pos (.inr hbt)]
  exact .inl ⟨(), rfl⟩
theorem ztp (l : List Int) : ∃ r, zi2 l = some r /\ GetOk l r := by
 rw [zi2]
 rcases ya2g l 0 0 with ⟨u, h⟩ | ⟨a, b, h, h1, h2, h3⟩
 rw [h]; exact ⟨_, rfl, by show (0 : Int) <= 0; omega, by show (0 : Int) <= _; omega, by intro h; cases h⟩
 rw [h]; exact ⟨_, rfl, h1, by show b <= _; omega, fun _ => h3⟩
theorem zw8 (l : List Int) (hl : l.length <= 1000000) : ∃ r, zh5 l = some r /\ 0 <= r.2.1 /\ r.2.1 <= l.length := by
 obtain ⟨v, hv, ho⟩ := ztp l
 have h1 := ho.s0
 have h2 := ho.s1
 rw [zh5, hv]
 simp only [Option.bind_some]
 by_cases hc : (¬ v.2.2 = 0 \/ v.1 > 4096) \/ v.1 > wr .i64 ((l.length : Int) - v.2.1)
 rw [if_pos hc]; exact ⟨_, rfl, by show (0 : Int) <= 0; omega, by show (0 : Int) <= _; omega⟩
 rw [if_neg hc]
 rw [wrk _ (by omega)] at hc
 have h3 := ho.n0 (by omega)
 rw [wrk _ (by omega), if_pos (by omega)]
 exact ⟨_, rfl, by show (0 : Int) <= v.2.1 + v.1; omega, by show v.2.1 + v.1 <= _; omega⟩
theorem zuz (l : List Int) (hl : l.length <= 1000000) (v : Int × Int × Int) : ∀ (fu : Nat) (acc : List Int) (at' k : Int), (v.1 - k).toNat < fu -> 0 <= at' -> at' <= l.length -> 0 <= k -> v.1 <= 4096 -> (acc.length : Int) <= k ->
  (∃ e, zc5 l v fu acc at' k = some (.inl ([], 0, e))) \/ ∃ acc' at2, zc5 l v fu acc at' k = some (.inr (acc', at2)) /\ 0 <= at2 /\ at2 <= l.length := by
 intro fu
 induction fu with
 | zero => intro acc at' k h; omega
 | succ fu ih =>
  intro acc at' k h h0 h1 hk hv ha
  rw [zc5]
  by_cases hlt : k < v.1
  obtain ⟨r, hr, ho⟩ := ztp (l.drop at'.toNat)
  have q1 := ho.s0
  have q2 := ho.s1
  simp only [List.length_drop] at q2
  rw [if_pos hlt, if_pos ⟨h0, h1⟩, hr]
  simp only [Option.bind_some]
  by_cases he : ¬ r.2.2 = 0
  rw [if_pos he]; exact .inl ⟨_, rfl⟩
  rw [if_neg he, if_pos (by simp; omega), wrk (at' + r.2.1) (by omega), wrk (k + 1) (by omega)]
  exact ih _ _ _ (by omega) (by omega) (by omega) (by omega) hv (by simp; omega)
  rw [if_neg hlt]; exact .inr ⟨_, _, rfl, h0, h1⟩
theorem zw9 (l : List Int) (hl : l.length <= 1000000) (m : Int) : ∃ r, zh6 l m = some r /\ 0 <= r.2.1 /\ r.2.1 <= l.length := by
 rw [zh6]
 by_cases hm : m < 0 \/ m > 4096
 rw [if_pos hm]; exact ⟨_, rfl, by show (0 : Int) <= 0; omega, by show (0 : Int) <= _; omega⟩
 rw [if_neg hm]
 obtain ⟨v, hv, ho⟩ := ztp l
 rw [hv]
 simp only [Option.bind_some]
 by_cases hc : ¬ v.2.2 = 0 \/ v.1 > m
 rw [if_pos hc]; exact ⟨_, rfl, by show (0 : Int) <= 0; omega, by show (0 : Int) <= _; omega⟩
 rw [if_neg hc]
 rcases zuz l hl v (v.1.toNat + 1) [] v.2.1 0 (by omega) ho.s0 ho.s1 (by omega) (by omega) (by simp) with ⟨e, h⟩ | ⟨a, b, h, h1, h2⟩
 rw [h]; exact ⟨_, rfl, by show (0 : Int) <= 0; omega, by show (0 : Int) <= _; omega⟩
 rw [h]; exact ⟨_, rfl, h1, h2⟩
theorem zt4 (r : Tcommand_reader) (n e : Int) (h : 0 <= n) : ∃ r', zc7 r n e = some r' /\ r'.fB.length <= r.fB.length := by
 rw [zc7, if_pos (by omega)]
 exact ⟨_, rfl, by simp⟩
theorem zfi (r : Tcommand_reader) : ∃ x, zai r = some x /\ x.2.fB.length <= r.fB.length := by
 obtain ⟨v, hv, ho⟩ := ztp r.fB
 obtain ⟨r', h1, h2⟩ := zt4 r v.2.1 v.2.2 ho.s0
 rw [zai, hv]
 simp only [Option.bind_some, h1]
 exact ⟨_, rfl, h2⟩
theorem zwz (r : Tcommand_reader) (hl : r.fB.length <= 1000000) : ∃ x, zcs r = some x /\ x.2.fB.length <= r.fB.length := by
 obtain ⟨v, hv, h0, _⟩ := zw8 r.fB hl
 obtain ⟨r', h1, h2⟩ := zt4 r v.2.1 v.2.2 h0
 rw [zcs, hv]
 simp only [Option.bind_some, h1]
 exact ⟨_, rfl, h2⟩
theorem zxl (r : Tcommand_reader) (hl : r.fB.length <= 1000000) (m : Int) : ∃ x, zct r m = some x /\ x.2.fB.length <= r.fB.length := by
 obtain ⟨v, hv, h0, _⟩ := zw9 r.fB hl m
 obtain ⟨r', h1, h2⟩ := zt4 r v.2.1 v.2.2 h0
 rw [zct, hv]
 simp only [Option.bind_some, h1]
 exact ⟨_, rfl, h2⟩
theorem zwk (r : Tcommand_reader) (hl : r.fB.length <= 1000000) : ∃ x, zcu r = some x := by
 obtain ⟨v1, h1, l1⟩ := zfi r
 rw [zcu, h1]
 simp only [Option.bind_some]
 by_cases k1 : wr .u8 (min v1.1 255) = 1
 obtain ⟨v2, h2, l2⟩ := zfi v1.2
 obtain ⟨v3, h3, l3⟩ := zxl v2.2 (by omega) 4
 obtain ⟨v4, h4, l4⟩ := zfi v3.2
 obtain ⟨v5, h5, l5⟩ := zwz v4.2 (by omega)
 obtain ⟨v6, h6, l6⟩ := zwz v5.2 (by omega)
 simp only [k1, if_true, h2, h3, h4, h5, h6, Option.bind_some]
 exact ⟨_, rfl⟩
 by_cases k2 : wr .u8 (min v1.1 255) = 2
 obtain ⟨v2, h2, l2⟩ := zfi v1.2
 obtain ⟨v3, h3, l3⟩ := zfi v2.2
 rw [if_neg k1, if_pos k2, h2]
 simp only [Option.bind_some, h3]
 exact ⟨_, rfl⟩
 by_cases k3 : wr .u8 (min v1.1 255) = 3
 obtain ⟨v2, h2, l2⟩ := zxl v1.2 (by omega) 6
 rw [if_neg k1, if_neg k2, if_pos k3, h2]
 simp only [Option.bind_some]
 exact ⟨_, rfl⟩
 rw [if_neg k1, if_neg k2, if_neg k3]
 obtain ⟨b2, hb2⟩ : ∃ b2, (if (wr .u8 (min v1.1 255)) = 4 then some ((wr .u8 (min v1.1 255)) == 4) else if (wr .u8 (min v1.1 255)) = 5 then some ((wr .u8 (min v1.1 255)) == 5) else some ((wr .u8 (min v1.1 255)) == 6)) = some b2 := by
  split
  exact ⟨_, rfl⟩
  split <;> exact ⟨_, rfl⟩
 rw [hb2]
 simp only [Option.bind_some]
 by_cases hb : b2 = true
 rw [if_pos hb]
 obtain ⟨v2, h2, l2⟩ := zfi v1.2
 obtain ⟨v3, h3, l3⟩ := zfi v2.2
 simp only [h2, h3, Option.bind_some]
 by_cases k4 : wr .u8 (min v1.1 255) = 4
 obtain ⟨v4, h4, l4⟩ := zfi v3.2
 obtain ⟨v5, h5, l5⟩ := zfi ⟨v4.2.fB, v4.2.fOk⟩
 rw [if_pos k4, h4]
 simp only [Option.bind_some, h5]
 exact ⟨_, rfl⟩
 obtain ⟨v5, h5, l5⟩ := zfi ⟨v3.2.fB, v3.2.fOk⟩
 rw [if_neg k4]
 simp only [Option.bind_some, h5]
 exact ⟨_, rfl⟩
 rw [if_neg hb]
 exact ⟨_, rfl⟩
theorem ztf (s : List UInt8) : ∃ r, zd1 s = some r := by
 rw [zd1]
 by_cases h : (s.length : Int) > 1024
 rw [if_pos h]; exact ⟨_, rfl⟩
 rw [if_neg h]
 obtain ⟨x, hx⟩ := zwk ⟨zlg s, true⟩ (by simp [zlg]; omega)
 rw [hx]
 simp only [Option.bind_some]
 by_cases hc : (¬ (x.2.fOk = true)) \/ ((x.2.fB.length : Int) > 0)
 rw [if_neg (fun h => h hc)]
 simp only [Option.bind_some]
 rw [if_pos (.inl hc)]
 exact ⟨_, rfl⟩
 rw [if_pos hc]
 obtain ⟨e, he, _⟩ := ya17 x.1
 rw [he]
 simp only [Option.bind_some]
 split <;> exact ⟨_, rfl⟩
def zom : List (List UInt8) -> Option (List TCommand)
 | [] => some []
 | s :: l => match zd1 s with
  | some (c, e) => if e = 0 then (zom l).map (c :: ·) else none
  | none => none
theorem ya2s : ∀ (l : List (List UInt8)) (cs : List TCommand), zom l = some cs -> cs.length = l.length := by
 intro l
 induction l with
 | nil => intro cs h; obtain rfl := sj h; simp
 | cons s l ih =>
  intro cs h
  obtain ⟨⟨c, e⟩, hr⟩ := ztf s
  simp only [zom, hr] at h
  split at h
  obtain ⟨ds, hd, rfl⟩ := Option.map_eq_some_iff.1 h
  simp [ih ds hd]
  cases h
theorem ya15 : ∀ (l : List (List UInt8)) (acc : List TCommand), acc.length + l.length < 1000000 -> zcf l acc = some (match zom l with | some cs => .inr (acc ++ cs) | none => .inl ([], 8)) := by
 intro l
 induction l with
 | nil => intro acc _; simp [zhk, zom]
 | cons s l ih =>
  intro acc h
  simp only [List.length_cons] at h
  obtain ⟨⟨c, e⟩, hr⟩ := ztf s
  rw [zhl, hr]
  simp only [Option.bind_some, zom, hr]
  by_cases he : e = 0
  rw [if_neg (by simpa using he), if_pos (by simp; omega), ih _ (by simp; omega), if_pos he]
  cases zom l <;> simp
  rw [if_pos he, if_neg he]
theorem ya16 (l : List (List UInt8)) : zdy l = some (if (l.length : Int) > 200 then (([], 4) : List TCommand × Int) else match zom l with | some cs => (cs, 0) | none => ([], 8)) := by
 rw [zdy]
 by_cases h : (l.length : Int) > 200
 rw [if_pos h, if_pos h]
 rw [if_neg h, if_neg h, ya15 l [] (by simp; omega)]
 cases zom l <;> rfl
theorem ya3q (s : List UInt8) (c : TCommand) (h : zd1 s = some (c, 0)) : zar c = some 0 := by
 rw [zd1] at h
 by_cases h9 : (s.length : Int) > 1024
 rw [if_pos h9] at h; cases h
 rw [if_neg h9] at h
 obtain ⟨x, hx, h⟩ := bind_some h
 obtain ⟨b, hb, h⟩ := bind_some h
 split at h
 cases h
 rename_i hn
 obtain rfl : x.1 = c := by injection h with h; injection h
 split at hb
 rw [hb]
 exact congrArg some (Classical.byContradiction fun k => hn (.inr k))
 rename_i hc
 exact absurd (.inl (Classical.not_not.1 hc)) hn
theorem ya4p : ∀ (l : List (List UInt8)) (cs : List TCommand), zom l = some cs -> ∀ c ∈ cs, zar c = some 0 := by
 intro l
 induction l with
 | nil => intro cs h; obtain rfl := sj h; simp
 | cons s l ih =>
  intro cs h
  obtain ⟨⟨c, e⟩, hr⟩ := ztf s
  simp only [zom, hr] at h
  split at h
  rename_i he
  subst he
  obtain ⟨ds, hd, rfl⟩ := Option.map_eq_some_iff.1 h
  intro d hm
  rcases List.mem_cons.1 hm with rfl | hm
  exact ya3q s _ hr
  exact ih ds hd d hm
  cases h
end Go.Proofs
end
section
namespace Go.Proofs
open Go.Tm
set_option linter.unusedVariables false
open Classical
theorem ztw : ∀ (ms : List TMessage) (l4 : List TTopic) (l5 : List (List Int)) (l6 : List TTook), StOk ⟨l4, l5⟩ -> l6.length + ms.length < 1000000 ->
  ∃ a b c, zbe ms l4 l5 l6 = some (a, b, c) /\ StOk ⟨a, b⟩ /\ c.length <= l6.length + ms.length
 | [], l4, l5, l6, h, _ => ⟨l4, l5, l6, rfl, h, Nat.le_refl _⟩
 | y :: r, l4, l5, l6, h, hl => by
  simp only [List.length_cons] at hl
  rw [zfs]
  obtain ⟨z, e, h1, h2⟩ := ya65 ⟨l4, l5⟩ y
  rw [e]
  simp only [Option.bind_some]
  by_cases h0 : z.2.2 = 0
  rw [if_neg (by omega), if_pos (by simp only [List.length_cons, List.length_nil]; omega)]
  simp only [Option.bind_some]
  obtain ⟨a, b, c, e1, e2, e3⟩ := ztw r z.1.Topics z.1.Commits (l6 ++ [⟨y.Id, y.Topic, z.2.1⟩]) (h1 h0).2.2.1 (by simp only [List.length_append, List.length_cons, List.length_nil]; omega)
  refine ⟨a, b, c, e1, e2, ?_⟩
  simp only [List.length_append, List.length_cons, List.length_nil] at e3 ⊢
  omega
  rw [if_pos h0]
  simp only [Option.bind_some]
  obtain ⟨a, b, c, e1, e2, e3⟩ := ztw r l4 l5 l6 h (by omega)
  refine ⟨a, b, c, e1, e2, ?_⟩
  simp only [List.length_cons]
  omega
theorem ya68 (h h' : THome) (c : TCommand) (e : zcg ⟨h⟩ c = some ⟨h'⟩) : h'.Skeen = h.Skeen := by
 unfold zcg at e
 obtain ⟨v, hv, e⟩ := bind_some e
 split at e
 split at e
 injection e with e; injection e with e; rw [<- e]
 obtain ⟨v, hv, e⟩ := bind_some e
 split at e
 injection e with e; injection e with e; rw [<- e]
 injection e with e; injection e with e; rw [<- e]
 cases e
theorem gdo2 (h : THome) (k : HOk h) (g : Int) (c : TCommand) (hc : zar c = some 0) : ∃ tk e h', zc6 ⟨h⟩ g c = some (tk, e, ⟨h'⟩) /\ tk.length + h.Skeen.Done.length <= h'.Skeen.Done.length /\ HOk h' /\
  (e = none \/ ∃ x, e = some x /\ x.2 ≠ 0 /\ tk = [] /\ h' = h) := by
 unfold zc6
 by_cases hk : c.Kind >= 4
 rw [if_pos hk]
 obtain ⟨h', e, h1, _⟩ := ya69 h k c (ya4q c hc hk)
 have hs := ya68 h h' c e
 rw [e]
 exact ⟨[], none, h', rfl, by rw [hs]; simp, h1, .inl rfl⟩
 rw [if_neg hk]
 rcases ya2w h.Skeen g c k.v with ⟨e, he, ha, _⟩ | ⟨W, ck, ws, W', _, ha, hv, _⟩
 rw [ha]
 simp only [Option.bind_some]
 rw [if_pos he]
 unfold zeg
 rw [if_neg he]
 exact ⟨_, _, _, rfl, by simp, k, .inr ⟨_, rfl, he, rfl, rfl⟩⟩
 rw [ha]
 simp only [Option.bind_some]
 rw [if_neg (by simp)]
 have hld := hv.ld
 simp only [List.length_append, List.length_map] at hld
 obtain ⟨a, b, tk, e, hs, hn⟩ := ztw (ws.map TWait.Message) h.Stream.Topics h.Stream.Commits [] k.s (by simp; omega)
 unfold zep
 rw [e]
 refine ⟨tk, none, ⟨⟨ck, W', h.Skeen.Done ++ ws.map stW⟩, ⟨a, b⟩, h.Last⟩, rfl, ?_, ⟨hv, hs, k.l, k.x⟩, .inl rfl⟩
 simp only [List.length_map, List.length_nil] at hn
 simp only [List.length_append, List.length_map]
 omega
def appR (h' : THome) (tk : List TTook) : Option (List UInt8 × Int) -> THome × List TTook × Int
 | none => (h', tk, 0)
 | some x => (zHo, [], x.2)
theorem app2 (h : THome) (k : HOk h) (g : Int) (hg : 0 <= g /\ g < 4) (c : TCommand) (hc : zar c = some 0) {tk : List TTook} {e : Option (List UInt8 × Int)} {h' : THome} (hd : zc6 ⟨h⟩ g c = some (tk, e, ⟨h'⟩)) :
  zd7 h g c = some (appR h' tk e) := by
 unfold zd7 zil
 rw [ya0u]
 simp only [Option.bind_some]
 rw [if_pos k]
 unfold zeg
 rw [if_pos rfl]
 simp only [Option.bind_some]
 unfold zg6
 rw [if_neg (by omega)]
 simp only [Option.bind_some]
 rw [hc]
 simp only [Option.bind_some]
 rw [if_pos trivial]
 simp only [Option.bind_some]
 rw [ya6o k]
 simp only [Option.bind_some]
 rw [hd]
 simp only [Option.bind_some]
 cases e with
 | none => rfl
 | some x => rfl
def gst (g : Int) (h : THome) (c : TCommand) : THome × List TTook := match zc6 ⟨h⟩ g c with
 | some (tk, _, ⟨h'⟩) => (h', tk)
 | none => (h, [])
def gpl (g : Int) : List TCommand -> THome -> List TTook -> THome × List TTook
 | [], h, o => (h, o)
 | c :: l, h, o => gpl g l (gst g h c).1 (o ++ (gst g h c).2)
theorem zxn (g : Int) (h : THome) (k : HOk h) (c : TCommand) (hc : zar c = some 0) : HOk (gst g h c).1 /\ (gst g h c).2.length + h.Skeen.Done.length <= (gst g h c).1.Skeen.Done.length /\
  ∃ e, zc6 ⟨h⟩ g c = some ((gst g h c).2, e, ⟨(gst g h c).1⟩) /\ (e = none \/ ∃ x, e = some x /\ x.2 ≠ 0 /\ (gst g h c).2 = [] /\ (gst g h c).1 = h) := by
 obtain ⟨tk, e, h', e1, e2, e3, e4⟩ := gdo2 h k g c hc
 have : gst g h c = (h', tk) := by unfold gst; rw [e1]
 rw [this]
 exact ⟨e3, e2, e, e1, e4⟩
theorem ya0r (g : Int) : ∀ (l : List TCommand) (h : THome) (o : List TTook), HOk h -> o.length <= h.Skeen.Done.length -> (∀ c ∈ l, zar c = some 0) -> HOk (gpl g l h o).1 /\ (gpl g l h o).2.length <= (gpl g l h o).1.Skeen.Done.length
 | [], h, o, k, hl, _ => ⟨k, hl⟩
 | c :: l, h, o, k, hl, hc => by
  obtain ⟨a, b, _⟩ := zxn g h k c (hc c (List.mem_cons_self ..))
  exact ya0r g l _ _ a (by rw [List.length_append]; omega) fun d hd => hc d (List.mem_cons_of_mem _ hd)
def t7 (x : THome × List TTook) : Int × List TWait × List TStamp × List TTopic × List (List Int) × List Int × List TTook := (x.1.Skeen.Clock, x.1.Skeen.Waits, x.1.Skeen.Done, x.1.Stream.Topics, x.1.Stream.Commits, x.1.Last, x.2)
theorem zum (g : Int) : ∀ (l : List TCommand) (h : THome) (o : List TTook), HOk h -> o.length <= h.Skeen.Done.length -> (∀ c ∈ l, zar c = some 0) ->
  zd6 g l h.Skeen.Clock h.Skeen.Waits h.Skeen.Done h.Stream.Topics h.Stream.Commits h.Last o = some (t7 (gpl g l h o))
 | [], h, o, _, _, _ => rfl
 | c :: l, h, o, k, hl, hc => by
  obtain ⟨a, b, e, e1, e2⟩ := zxn g h k c (hc c (List.mem_cons_self ..))
  have hd := a.v.ld
  rw [zij]
  have e1' : zc6 (⟨(⟨(⟨h.Skeen.Clock, h.Skeen.Waits, h.Skeen.Done⟩ : TSkeen), (⟨h.Stream.Topics, h.Stream.Commits⟩ : TStream), h.Last⟩ : THome)⟩ : Tgroup_home) g c = _ := e1
  rw [e1']
  simp only [Option.bind_some]
  have ih := zum g l (gst g h c).1 (o ++ (gst g h c).2) a (by rw [List.length_append]; omega) fun d hd => hc d (List.mem_cons_of_mem _ hd)
  rcases e2 with rfl | ⟨x, rfl, x1, x2, x3⟩
  simp only [zgs, Option.bind_some, Bool.false_eq_true, if_false]
  rw [if_pos (by omega)]
  exact ih
  simp only [zgs, Option.bind_some]
  rw [x2, x3, List.append_nil] at ih
  have hg : gpl g (c :: l) h o = gpl g l h o := by rw [gpl, x2, x3, List.append_nil]
  rw [hg]
  rw [x2, x3]
  by_cases h9 : decide (x.2 = 9) = true
  rw [if_pos h9]
  exact ih
  rw [if_neg h9, if_pos (by rw [List.length_nil]; omega), List.append_nil]
  exact ih
theorem ya4b (g : Int) (hg : 0 <= g /\ g < 4) (h : THome) (k : HOk h) (c : TCommand) (hc : zar c = some 0) (o : List TTook) (ho : o.length <= h.Skeen.Done.length) :
  ∃ r, zd7 h g c = some r /\ ((r.2.2 = 0 /\ r.1 = (gst g h c).1 /\ r.2.1 = (gst g h c).2) \/ (r.2.2 ≠ 0 /\ (gst g h c).1 = h /\ (gst g h c).2 = [])) := by
 obtain ⟨a, b, e, e1, e2⟩ := zxn g h k c hc
 rw [app2 h k g hg c hc e1]
 rcases e2 with rfl | ⟨x, rfl, x1, x2, x3⟩
 exact ⟨_, rfl, .inl ⟨rfl, rfl, rfl⟩⟩
 exact ⟨_, rfl, .inr ⟨x1, x3, x2⟩⟩
theorem ya4u : ze3 = some true := by decide +kernel
theorem zuu (l : List (List UInt8)) : ∀ (fu k : Nat) (n : Int), 1000 - k < fu -> k <= 1000 -> ∃ r, zb3 l fu n (k : Int) = some r
 | 0, k, n, h, _ => by omega
 | fu + 1, k, n, h, hk => by
  rw [zb3]
  by_cases hc : (k : Int) < (l.length : Int) /\ (k : Int) < 1000
  rw [if_pos hc, if_pos (by omega), wrk ((k : Int) + 1) (by omega)]
  exact zuu l fu (k + 1) _ (by omega) (by omega)
  rw [if_neg hc]; exact ⟨n, rfl⟩
theorem ya46 (l : List (List UInt8)) : ∃ b, zdl l = some b := by
 obtain ⟨r, hr⟩ := zuu l 1002 0 0 (by omega) (by omega)
 have hr' : zb3 l 1002 0 0 = some r := hr
 rw [zdl, hr']
 exact ⟨_, rfl⟩
theorem zu9 (l : List TTook) (hl : l.length <= 1000000) : ∀ (fu k : Nat), l.length - k < fu -> k <= l.length -> zaq l l fu (k : Int) = some (.inr ())
 | 0, k, h, _ => by omega
 | fu + 1, k, h, hk => by
  rw [zaq]
  by_cases hc : (k : Int) < (l.length : Int)
  rw [if_pos hc, if_pos (by omega), if_pos (by omega), if_neg (by simp), wrk ((k : Int) + 1) (by omega)]
  exact zu9 l hl fu (k + 1) (by omega) (by omega)
  rw [if_neg hc]
theorem ya3g (l : List TTook) (hl : l.length <= 1000000) : zcn l l = some true := by
 have h : zaq l l (l.length + 1) 0 = _ := zu9 l hl (l.length + 1) 0 (by omega) (by omega)
 rw [zcn, if_neg (by simp), h]
 rfl
theorem ya7c : ∃ h, zf7 = some h /\ HOk h := by
 have e : Option.bind zf7 zf8 = some 0 := by decide +kernel
 obtain ⟨h, e1, e2⟩ := bind_some e
 refine ⟨h, e1, ?_⟩
 rw [ya0u] at e2
 exact Classical.byContradiction fun k => by rw [if_neg k] at e2; cases e2
theorem ya2f (g : Int) (l : List (List UInt8)) {h0 : THome} (hn : zf7 = some h0) (k0 : HOk h0) : (∃ e, e ≠ 0 /\ zfz g l = some (zHo, [], e)) \/
  ∃ cs, (0 <= g /\ g < 4) /\ zom l = some cs /\ l.length <= 200 /\ (∀ c ∈ cs, zar c = some 0) /\ zdy l = some (cs, 0) /\ zfz g l = some ((gpl g cs h0 []).1, (gpl g cs h0 []).2, 0) := by
 unfold zfz zg6
 by_cases hg : g < 0 \/ g >= 4
 rw [if_pos hg]
 unfold zeg
 rw [if_neg (by decide)]
 exact .inl ⟨2, by decide, rfl⟩
 rw [if_neg hg, ya16]
 by_cases hl : (l.length : Int) > 200
 rw [if_pos hl]; exact .inl ⟨4, by decide, rfl⟩
 rw [if_neg hl]
 cases hc : zom l with
 | none => exact .inl ⟨8, by decide, rfl⟩
 | some cs =>
  right
  have ck := ya4p l cs hc
  obtain ⟨ok, _⟩ := ya0r g cs h0 [] k0 (Nat.zero_le _) ck
  refine ⟨cs, by omega, rfl, by omega, ck, rfl, ?_⟩
  simp only [Option.bind_some, not_true_eq_false, if_false, hn]
  rw [zum g cs h0 [] k0 (Nat.zero_le _) ck]
  have t : zfy (⟨(⟨(gpl g cs h0 []).1.Skeen.Clock, (gpl g cs h0 []).1.Skeen.Waits, (gpl g cs h0 []).1.Skeen.Done⟩ : TSkeen), (⟨(gpl g cs h0 []).1.Stream.Topics, (gpl g cs h0 []).1.Stream.Commits⟩ : TStream), (gpl g cs h0 []).1.Last⟩ : THome) = _ := ya6o ok
  simp only [t7, Option.bind_some, t]
theorem zr1 (g : Int) (hg : 0 <= g /\ g < 4) (cs : List TCommand) (hl : cs.length <= 200) (ck : ∀ c ∈ cs, zar c = some 0) : ∀ (fu k : Nat) (h : THome) (o : List TTook), HOk h -> o.length <= h.Skeen.Done.length -> cs.length - k < fu -> k <= cs.length ->
  zaj g (cs, 0) fu h.Skeen.Clock h.Skeen.Waits h.Skeen.Done h.Stream.Topics h.Stream.Commits h.Last o (k : Int) = some (t7 (gpl g (cs.drop k) h o))
 | 0, k, h, o, _, _, hf, _ => by omega
 | fu + 1, k, h, o, kh, ho, hf, hk => by
  rw [zaj]
  by_cases hc : k < cs.length
  have hc' : (k : Int) < (((cs, 0) : List TCommand × Int).1.length : Int) := by show (k : Int) < (cs.length : Int); omega
  rw [if_pos hc', if_pos (by omega)]
  have hd : cs.drop k = cs[k] :: cs.drop (k + 1) := List.drop_eq_getElem_cons hc
  have hgd : ((cs, 0) : List TCommand × Int).1.getD ((k : Int)).toNat default = cs[k] := by simp [List.getD_eq_getElem?_getD, hc]
  have hck := ck cs[k] (List.getElem_mem hc)
  rw [hgd]
  obtain ⟨r, e1, e2⟩ := ya4b g hg h kh cs[k] hck o ho
  obtain ⟨a, b, _⟩ := zxn g h kh cs[k] hck
  have hdn := a.v.ld
  have e1' : zd7 (⟨(⟨h.Skeen.Clock, h.Skeen.Waits, h.Skeen.Done⟩ : TSkeen), (⟨h.Stream.Topics, h.Stream.Commits⟩ : TStream), h.Last⟩ : THome) g cs[k] = some r := e1
  rw [e1']
  simp only [Option.bind_some]
  have hw : wr .i64 ((k : Int) + 1) = ((k + 1 : Nat) : Int) := wrk _ (by omega)
  rw [hd, gpl, hw]
  rcases e2 with ⟨r1, r2, r3⟩ | ⟨r1, r2, r3⟩
  rw [if_pos r1, r3, r2, if_pos (by omega)]
  simp only [Option.bind_some]
  exact zr1 g hg cs hl ck fu (k + 1) _ _ a (by rw [List.length_append]; omega) (by omega) (by omega)
  rw [if_neg r1, r2, r3, List.append_nil]
  simp only [Option.bind_some]
  exact zr1 g hg cs hl ck fu (k + 1) _ _ kh ho (by omega) (by omega)
  have hc' : ¬ (k : Int) < (((cs, 0) : List TCommand × Int).1.length : Int) := by show ¬ (k : Int) < (cs.length : Int); omega
  rw [if_neg hc', List.drop_eq_nil_of_le (by omega)]
  rfl
theorem ya6p (a0 : Int) (a1 : List (List UInt8)) : zcx a0 a1 = some true := by
 unfold zcx
 obtain ⟨v2, e2⟩ := ya46 a1
 obtain ⟨h0, n0, k0⟩ := ya7c
 rw [ya4u]
 simp only [Option.bind_some]
 rw [if_pos trivial, e2]
 simp only [Option.bind_some]
 by_cases hv : v2 = true
 rw [if_pos (.inl hv)]
 rw [if_neg (by simp [hv])]
 rcases ya2f a0 a1 n0 k0 with ⟨e, he, hp⟩ | ⟨cs, hg, hcs, hl, ck, hlc, hp⟩
 rw [hp, ya16]
 simp only [Option.bind_some]
 rw [if_pos (.inl he)]
 simp [he]
 have hcl := ya2s a1 cs hcs
 obtain ⟨ok, on⟩ := ya0r a0 cs h0 [] k0 (Nat.zero_le _) ck
 rw [hp, hlc]
 simp only [Option.bind_some]
 rw [if_neg (by simp), n0]
 simp only [Option.bind_some]
 have hL : zaj a0 (cs, 0) 201 h0.Skeen.Clock h0.Skeen.Waits h0.Skeen.Done h0.Stream.Topics h0.Stream.Commits h0.Last [] 0 = _ := zr1 a0 hg cs (by omega) ck 201 0 h0 [] k0 (Nat.zero_le _) (by omega) (by omega)
 have hs : zf0 (⟨(⟨(gpl a0 cs h0 []).1.Skeen.Clock, (gpl a0 cs h0 []).1.Skeen.Waits, (gpl a0 cs h0 []).1.Skeen.Done⟩ : TSkeen), (⟨(gpl a0 cs h0 []).1.Stream.Topics, (gpl a0 cs h0 []).1.Stream.Commits⟩ : TStream), (gpl a0 cs h0 []).1.Last⟩ : THome) (gpl a0 cs h0 []).1 = some true := ya4a (gpl a0 cs h0 []).1
 have hd := ok.v.ld
 rw [hL]
 simp only [t7, List.drop_zero, Option.bind_some, hs, if_true, ya3g _ (show (gpl a0 cs h0 []).2.length <= 1000000 by omega), and_self, ya0u, if_pos ok]
 rfl
end Go.Proofs
end
section
namespace Go.Tm
open Go.RowKit Go.WideShapes Go.ChangeShapes
def aggT (P : Program) (t : TypeId) : Bool := match P.underlying t with
 | some (.struct _) => true
 | _ => false
def mkD (P : Program) (t : TypeId) (l : List D) : D := bif aggT P t then .agg l else l.headD .undef
def zks (P : Program) (chk : TypeId -> Bool) : Nat -> List Field -> Nat -> Bool
 | off, [], tot => Nat.beq off tot
 | off, f :: fs, tot => Nat.beq f.offset off && chk f.type && zks P chk (off + P.cellsOf f.type) fs tot
def zrm (P : Program) : Nat -> TypeId -> Bool
 | 0, _ => false
 | n + 1, t => match P.underlying t with
  | some .bool => true
  | some (.int _) => true
  | some .string => true
  | some (.slice e) => zrm P n e && Nat.blt 0 (P.cellsOf e) && (aggT P e || Nat.beq (P.cellsOf e) 1)
  | some (.struct fs) => zks P (zrm P n) 0 fs.toList (P.cellsOf t)
  | _ => false
def zzm (p : TypeId -> List D -> Prop) : List TypeId -> List D -> Prop
 | [], l => l = []
 | t :: ts, l => ∃ l1 l2, l = l1 ++ l2 /\ p t l1 /\ zzm p ts l2
theorem zp6 {C : Cx} : ∀ {l1 l2 : List D} {v1 v2 : List Value}, reps C l1 v1 -> reps C l2 v2 -> reps C (l1 ++ l2) (v1 ++ v2)
 | [], l2, v1, v2, h1, h2 => by simp only [reps] at h1; subst h1; simpa using h2
 | d :: ds, l2, v1, v2, h1, h2 => by
  simp only [reps] at h1
  obtain ⟨v, vs, rfl, hd, h1⟩ := h1
  simp only [List.cons_append, reps]
  exact ⟨v, vs ++ v2, rfl, hd, zp6 h1 h2⟩
theorem zy4 {C : Cx} {b s : Nat} {p : List D -> Prop} {f : List D -> D} : ∀ (n o : Nat), (∀ i, i < n -> ∃ l v, p l /\ rep C (f l) v /\ v.cells.size = s /\ v.cells.toList.all (·.oneCell') = true /\ C.w.rangeAt b (o + i * s) v.cells.toList) ->
  ∃ xs : List (List D), xs.length = n /\ elems C (xs.map f) b o s /\ ∀ x ∈ xs, p x
 | 0, o, _ => ⟨[], rfl, by simp only [List.map_nil, elems], by simp⟩
 | n + 1, o, h => by
  obtain ⟨l, v, h1, h2, h3, h4, h5⟩ := h 0 (by omega)
  obtain ⟨xs, g1, g2, g3⟩ := zy4 n (o + s) (fun i hi => by
   obtain ⟨l, v, h1, h2, h3, h4, h5⟩ := h (i + 1) (by omega)
   exact ⟨l, v, h1, h2, h3, h4, by rwa [show o + (i + 1) * s = o + s + i * s by rw [Nat.add_mul]; omega] at h5⟩)
  refine ⟨l :: xs, by simp [g1], ?_, by simpa using ⟨h1, g3⟩⟩
  simp only [List.map_cons, elems]
  exact ⟨⟨v, h2, h3, h4, by simpa using h5⟩, g2⟩
theorem zrd {P : Program} {chk : TypeId -> Bool} : ∀ (fs : List Field) (off tot : Nat), zks P chk off fs tot = true -> off <= tot
 | [], off, tot, h => Nat.le_of_eq (nb h)
 | f :: fs, off, tot, h => by
  simp only [zks, Bool.and_eq_true] at h
  have := zrd fs _ _ h.2
  omega
section
variable {H : Type} {enc : TypeId × Value -> H} {P : Program} {w : World} {sp : Nat -> Bool}
theorem zn3 (hl : laidOutB P = true) {W W' : World} (hB : Below W.heap.size W W') {sp' : Nat -> Bool} : ∀ {ts : List TypeId} {vs : List Value} {ds : List (DataW H)} {ps : List MemPlace}, (ts.all fun t => P.readableRec t && Nat.blt t P.types.size) = true ->
  DataW.TrodAll enc P W 0 (fun _ => true) true ts vs ds ps -> (∀ p ∈ ps, p.block < W.heap.size /\ sp' p.block = true) -> DataW.TrodAll enc P W' 0 sp' true ts vs ds ps
 | [], [], [], _, _, h, _ => h
 | t :: ts, v :: vs, d :: ds, ps, hr, h, hp => by
  obtain ⟨p, q, h1, h2, rfl⟩ := h
  simp only [List.all_cons, Bool.and_eq_true] at hr
  refine ⟨p, q, WideElems.Trod_stays hl hr.1.1 (lb hr.1.2) h1 (fun x hx => hB.same (hp x (by simp [hx])).1) (fun x hx => (hp x (by simp [hx])).2), ?_, rfl⟩
  exact zn3 hl hB hr.2 h2 fun x hx => hp x (by simp [hx])
 | [], _ :: _, _, _, _, h, _ => h.elim
 | [], [], _ :: _, _, _, h, _ => h.elim
 | _ :: _, [], _, _, _, h, _ => h.elim
 | _ :: _, _ :: _, [], _, _, h, _ => h.elim
end
section
variable {P : Program} {n : Nat} {t : TypeId} {l : List D}
theorem zqp {d : D} (ha : aggT P t = false) : mkD P t [d] = d := by simp only [mkD, ha, cond_false, List.headD_cons]
end
end Go.Tm
end
section
namespace Go.Tm
open Go.RowKit Go.WideShapes
def zfr (P : Program) : Nat -> TypeId -> List D -> Prop
 | 0, _, _ => False
 | n + 1, t, l => match P.underlying t with
  | some .bool => ∃ b, l = [.bool b]
  | some (.int k) => ∃ m, l = [.int k m]
  | some .string => ∃ s, l = [.str s]
  | some (.slice e) => ∃ xs : List (List D), l = [.imm (P.cellsOf e) (xs.map (mkD P e)) 4] /\ xs.length * P.bytesOf e <= 140737488355328 /\ ∀ x ∈ xs, zfr P n e x
  | some (.struct fs) => zzm (zfr P n) (fs.toList.map (·.type)) l
  | _ => False
section
variable {H : Type} {enc : TypeId × Value -> H} {P : Program} {w : World} {sp : Nat -> Bool}
theorem zmf {e : TypeId} {k : Nat} : ∀ {l : List (DataW H)} {d : DataW H}, d ∈ l -> k ∈ DataW.weights P e d -> k ∈ DataW.weightsAll P e l
 | x :: l, d, hd, hk => by
  simp only [DataW.weightsAll, List.mem_append]
  rcases List.mem_cons.1 hd with rfl | hd
  exact .inl hk
  exact .inr (zmf hd hk)
theorem zl7 {k : Nat} : ∀ {ts vt : List TypeId} {ds gs : List (DataW H)}, k ∈ DataW.weightsEach P ts ds -> k ∈ DataW.weightsEach P (ts ++ vt) (ds ++ gs)
 | [], _, _, _, h => by simp [DataW.weightsEach] at h
 | _ :: _, _, [], _, h => by simp [DataW.weightsEach] at h
 | t :: ts, vt, d :: ds, gs, h => by
  simp only [DataW.weightsEach, List.cons_append, List.mem_append] at h ⊢
  exact h.imp id zl7
theorem zo9 : ∀ (n fuel : Nat) (t : TypeId) (cs : List Value) (x : DataW H × List MemPlace) (C : Cx), C.w = w -> (∀ b, ¬ C.M b) -> (∀ b, C.Z b) -> zrm P n t = true -> DataW.trod enc P w 0 sp true fuel t cs = some x -> (∀ k ∈ DataW.weights P t x.1, k <= reachBytes) ->
  ∃ l, reps C l cs /\ zfr P n t l /\ cs.all (·.oneCell') = true
 | 0, _, _, _, _, _, _, _, _, h, _, _ => by simp [zrm] at h
 | n + 1, fuel, t, cs, x, C, hw, hM, hlo, hd, h, hwt => by
  unfold zrm at hd
  split at hd
  rename_i ht
  simp only [zfr, ht]
  obtain ⟨b, rfl, _⟩ := DataW.trod_bool ht h
  exact ⟨[.bool b], by simp only [reps, rep]; exact ⟨_, _, rfl, rfl, rfl⟩, ⟨b, rfl⟩, rfl⟩
  rename_i k ht
  simp only [zfr, ht]
  obtain ⟨m, rfl, _, hwf⟩ := DataW.trod_int ht h
  simp only [Lit.wf, Bool.and_eq_true, decide_eq_true_eq] at hwf
  exact ⟨[.int k m], by simp only [reps, rep]; exact ⟨_, _, rfl, ⟨rfl, hwf⟩, rfl⟩, ⟨m, rfl⟩, rfl⟩
  rename_i ht
  simp only [zfr, ht]
  obtain ⟨s, rfl, _, hs⟩ := DataW.trod_string ht h
  refine ⟨[.str s.data.toList], ?_, ⟨_, rfl⟩, rfl⟩
  simp only [reps, rep]
  refine ⟨_, _, rfl, ⟨by rw [Array.toArray_toList], ?_⟩, rfl⟩
  have h1 : s.data.toList.length = s.size := by rw [Array.length_toList]; rfl
  have h2 : s.size <= 9223372036854775807 := hs
  rw [h1]; omega
  ·rename_i e ht
   simp only [zfr, ht]
   simp only [Bool.and_eq_true, Bool.or_eq_true] at hd
   obtain ⟨⟨hde, hpos⟩, hone⟩ := hd
   have hpos : 0 < P.cellsOf e := lb hpos
   rcases DataW.trod_slice ht h with ⟨rfl, _⟩ | ⟨a, len, cap, els, rest, m, _, rfl, rfl, hb, hl, hc, hlen, hel, _⟩
   refine ⟨[.imm (P.cellsOf e) (([] : List (List D)).map (mkD P e)) 4], ?_, ⟨[], rfl, by simp, fun _ h => by cases h⟩, rfl⟩
   simp only [reps, rep, List.map_nil, List.length_nil]
   exact ⟨_, _, rfl, ⟨none, 0, rfl, by simp, by simp, by simp, by simp, by simp, by simp, by simp, .inl trivial⟩, rfl⟩
   ·have hc : cap <= 9223372036854775807 := hc
    have key : ∀ i, i < len -> ∃ l v, zfr P n e l /\ rep (C.at C.Z) (mkD P e l) v /\ v.cells.size = P.cellsOf e /\ v.cells.toList.all (·.oneCell') = true /\ (i = 0 -> a.spot = none) /\ a.block < w.heap.size /\ w.rangeAt a.block (a.off + i * P.cellsOf e) v.cells.toList := by
     intro i hi
     have hi' := hel i hi
     have hsome : els[i]? = some els[i] := List.getElem?_eq_getElem (by omega)
     rw [hsome, Option.bind_eq_some_iff] at hi'
     obtain ⟨cs', hcs, htr⟩ := hi'
     obtain ⟨_, hclen, hcell⟩ := World.cells?_some hcs
     obtain ⟨l, g1, g2, g3⟩ := zo9 n m e cs' _ (C.at C.Z) (by simpa [Cx.at] using hw) (by simpa [Cx.at] using hM) (by simpa [Cx.at] using hlo) hde htr (fun k hk => hwt k (by
      simp only [DataW.weights, ht, List.mem_cons, List.mem_append]
      exact .inr (.inl (zmf (List.mem_map_of_mem (List.getElem_mem _)) hk))))
     have h0 := hcell 0 hpos
     have hc0 : cs'[0]? = some cs'[0] := List.getElem?_eq_getElem (by omega)
     rw [hc0] at h0
     have hadd : ∀ j, ((a.add (i * P.cellsOf e)).add j).block = a.block := by intro j; unfold Addr.add; split <;> split <;> rfl
     have hblk : a.block < w.heap.size /\ ((a.add (i * P.cellsOf e)).add 0).spot = none := by
      unfold World.cell? at h0
      rw [hadd] at h0
      split at h0
      rename_i c T fz hh
      have := (Array.getElem?_eq_some_iff.1 hh).1
      split at h0
      cases h0
      rename_i hs; exact ⟨this, by simpa using hs⟩
      cases h0
     have hspot0 : (a.add (i * P.cellsOf e)).spot = none := by simpa [Addr.add] using hblk.2
     have hae : ∀ j, j < P.cellsOf e -> (a.add (i * P.cellsOf e)).add j = ⟨a.block, a.off + i * P.cellsOf e + j, none⟩ := by
      intro j _
      unfold Addr.add at hspot0 ⊢
      split at hspot0
      ·rename_i hz
       simp only [hz, if_true, Nat.add_zero]
       split
       ·rename_i hj; subst hj; cases a; simp_all
       rfl
      rename_i hz
      simp only [hz, if_false]
      split
      rename_i hj; subst hj; rfl
      rfl
     have hrange : w.rangeAt a.block (a.off + i * P.cellsOf e) cs' := by
      intro j v hj
      have hjl := (List.getElem?_eq_some_iff.1 hj).1
      have := hcell j (by omega)
      rw [hae j (by omega), hj] at this
      exact this
     cases hag : aggT P e with
     | true =>
      refine ⟨l, .agg cs'.toArray, g2, ?_, by simp [Value.cells, hclen], by simpa [Value.cells] using g3, ?_, hblk.1, by simpa [Value.cells] using hrange⟩
      simp only [mkD, hag, cond_true, rep]
      exact ⟨cs', rfl, g1⟩
      rintro rfl; simpa [Addr.add] using hspot0
     | false =>
      rw [hag] at hone
      have h1 : P.cellsOf e = 1 := by simpa using hone
      rw [h1] at hclen
      obtain ⟨v, rfl⟩ := List.length_eq_one_iff.1 hclen
      obtain ⟨d, rfl⟩ : ∃ d, l = [d] := List.length_eq_one_iff.1 ((zcq _ _ g1).symm.trans rfl)
      simp only [reps] at g1
      obtain ⟨v', vs', hv, hd, rfl⟩ := g1
      obtain rfl : v = v' := (List.cons.inj hv).1
      have hcv : v.cells = #[v] := by
       simp only [List.all_cons, List.all_nil, Bool.and_true] at g3
       cases v <;> first | rfl | simp [Value.oneCell'] at g3
      refine ⟨[d], v, g2, by simpa [mkD, hag] using hd, by simp [hcv, h1], by simpa [hcv] using g3, ?_, hblk.1, by simpa [hcv] using hrange⟩
      rintro rfl; simpa [Addr.add] using hspot0
    obtain ⟨xs, g1, g2, g3⟩ := zy4 (C := C.at C.Z) (b := a.block) (s := P.cellsOf e) (p := zfr P n e) (f := mkD P e) len a.off (fun i hi => by
     obtain ⟨l, v, h1, h2, h3, h4, _, _, h5⟩ := key i hi
     exact ⟨l, v, h1, h2, h3, h4, by subst hw; exact h5⟩)
    refine ⟨[.imm (P.cellsOf e) (xs.map (mkD P e)) 4], ?_, ⟨xs, rfl, ?_, g3⟩, rfl⟩
    case refine_2 =>
     have h9 := hwt ((els.length + rest.length) * P.bytesOf e) (by simp [DataW.weights, ht])
     have h8 : xs.length * P.bytesOf e <= (els.length + rest.length) * P.bytesOf e := Nat.mul_le_mul_right _ (by omega)
     have h7 := reachBytes_lt
     omega
    simp only [reps, rep, List.length_map, g1]
    refine ⟨_, _, rfl, ⟨some a, cap, rfl, hl, by omega, by simp, by simp, by simp, by simp, by simp, ?_⟩, rfl⟩
    rcases Nat.eq_zero_or_pos len with h0 | h0
    left; subst h0; have := List.length_eq_zero_iff.1 g1; simp [this]
    right
    obtain ⟨_, _, _, _, _, _, k1, k2, _⟩ := key 0 h0
    intro Z hZ
    have hZ : C.Z = Z := by simpa [Cx.zone] using hZ
    subst hZ
    exact ⟨a, rfl, k1 rfl, hM _, hlo _, by exact ⟨by rw [hw]; exact k2, fun h => by simp at h⟩, g2⟩
  rename_i fs ht
  simp only [zfr, ht]
  obtain ⟨xs, m, _, rfl, hcl, hxl, hf⟩ := DataW.trod_struct ht h
  have key : ∀ (gs : List Field) (k : Nat), (∀ i f, gs[i]? = some f -> fs[k + i]? = some f) -> ∀ off, zks P (zrm P n) off gs (P.cellsOf t) = true -> off <= cs.length -> 
    ∃ l, reps C l (cs.drop off) /\ zzm (zfr P n) (gs.map (·.type)) l /\ (cs.drop off).all (·.oneCell') = true := by
   intro gs
   induction gs with
   | nil =>
    intro k _ off ho _
    simp only [zks] at ho
    have ho := nb ho
    have : cs.drop off = [] := by rw [ho, <- hcl]; simp
    rw [this]
    exact ⟨[], by simp only [reps], rfl, rfl⟩
   | cons f gs ih =>
    intro k hk off ho hle
    simp only [zks, Bool.and_eq_true] at ho
    obtain ⟨⟨h1, h2⟩, h3⟩ := ho
    have h1 := nb h1
    have hfk := hf k f (by simpa using hk 0 f rfl)
    have hkl : k < xs.length := by
     have := hk 0 f rfl
     rw [hxl]
     exact (Array.getElem?_eq_some_iff.1 (by simpa using this)).1
    rw [List.getElem?_eq_getElem hkl, h1] at hfk
    obtain ⟨l1, g1, g2, g3⟩ := zo9 n m f.type _ _ C hw hM hlo h2 hfk (fun q hq => hwt q (by
     simp only [DataW.weights, ht]
     have h0 := hk 0 f rfl
     exact DataW.weights_mem_each (j := k) (by simp; exact ⟨f, by simpa using h0, rfl⟩) (by rw [List.getElem?_map, List.getElem?_eq_getElem hkl]; rfl) q hq))
    have hl1 : ((cs.drop off).take (P.cellsOf f.type)).length = P.cellsOf f.type := by
     have := zrd _ _ _ h3
     simp
     omega
    obtain ⟨l2, k1, k2, k3⟩ := ih (k + 1) (fun i f' hi => by have := hk (i + 1) f' (by simpa using hi); rwa [show k + (i + 1) = k + 1 + i by omega] at this) (off + P.cellsOf f.type) h3 (by
     simp at hl1; omega)
    have e : cs.drop off = (cs.drop off).take (P.cellsOf f.type) ++ cs.drop (off + P.cellsOf f.type) := by
     rw [<- List.drop_drop, List.take_append_drop]
    refine ⟨l1 ++ l2, by rw [e]; exact zp6 g1 k1, ⟨l1, l2, rfl, g2, k2⟩, by rw [e, List.all_append, g3, k3]; rfl⟩
  simpa using key fs.toList 0 (fun i f hi => by simpa using hi) 0 hd (Nat.zero_le _)
  cases hd
theorem zzp {r : Reach} {b0 n : Nat} {t : TypeId} {v : Value} {d : DataW H} {ps : List MemPlace} {fr : Nat} (hd : zrm P n t = true) (hval : Value.okWide P w r b0 t v) (h : DataW.Trod enc P w 0 sp true t v d ps) (hwt : ∀ k ∈ DataW.weights P t d, k <= reachBytes) :
  ∃ l, zfr P n t l /\ rep (cx0 w fr) (mkD P t l) v := by
 obtain ⟨fuel, h⟩ := h
 obtain ⟨l, h1, h2, h3⟩ := zo9 n fuel t _ _ (cx0 w fr) rfl (fun _ h => h) (fun _ => trivial) hd h hwt
 refine ⟨l, h2, ?_⟩
 unfold mkD aggT
 cases n with
 | zero => simp [zrm] at hd
 | succ n =>
  unfold zrm at hd
  unfold Value.okWide at hval
  split at hd
  case h_5 fs ht =>
   rw [ht] at hval ⊢
   obtain ⟨cs, rfl, _⟩ := hval
   simp only [cond_true, rep]
   exact ⟨cs.toList, by simp, by simpa [Value.cells] using h1⟩
  case h_6 => cases hd
  all_goals
   rename_i ht
   rw [ht] at hval ⊢
   simp only [cond_false]
   have hcv : v.cells = #[v] := by
    cases v with
    | agg cs => simp [Cell.okWide, Cell.ok, ht] at hval
    | _ => rfl
   rw [hcv] at h1
   have hl : ∃ d, l = [d] := List.length_eq_one_iff.1 ((zcq _ _ h1).symm.trans rfl)
   obtain ⟨d, rfl⟩ := hl
   simp only [reps] at h1
   obtain ⟨v', vs', hv, hd', _⟩ := h1
   obtain rfl : v = v' := by simpa using (List.cons.inj hv).1
   exact hd'
def ziz (P : Program) (n : Nat) : List TypeId -> List D -> Prop
 | [], l => l = []
 | t :: ts, l => ∃ c r, l = mkD P t c :: r /\ zfr P n t c /\ ziz P n ts r
theorem zn4 {r : Reach} {b0 n fr : Nat} : ∀ {ts : List TypeId} {vs : List Value} {ds : List (DataW H)} {ps : List MemPlace}, ts.all (zrm P n) = true -> (∀ (j : Nat) t v, ts[j]? = some t -> vs[j]? = some v -> Value.okWide P w r b0 t v) ->
  DataW.TrodAll enc P w 0 sp true ts vs ds ps -> (∀ k ∈ DataW.weightsEach P ts ds, k <= reachBytes) -> ∃ l, ziz P n ts l /\ reps (cx0 w fr) l vs
 | [], [], [], _, _, _, _, _ => ⟨[], rfl, by simp only [reps]⟩
 | t :: ts, v :: vs, d :: ds, ps, hd, hval, h, hwt => by
  obtain ⟨p, q, h1, h2, _⟩ := h
  simp only [List.all_cons, Bool.and_eq_true] at hd
  obtain ⟨c, g1, g2⟩ := zzp (fr := fr) hd.1 (hval 0 t v rfl rfl) h1 (fun k hk => hwt k (by simp only [DataW.weightsEach, List.mem_append]; exact .inl hk))
  obtain ⟨l, k1, k2⟩ := zn4 hd.2 (fun j t v h h' => hval (j + 1) t v h h') h2 (fun k hk => hwt k (by simp only [DataW.weightsEach, List.mem_append]; exact .inr hk))
  exact ⟨_ :: l, ⟨c, l, rfl, g1, k1⟩, by simp only [reps]; exact ⟨_, _, rfl, g2, k2⟩⟩
 | [], _ :: _, _, _, _, _, h, _ => h.elim
 | [], [], _ :: _, _, _, _, h, _ => h.elim
 | _ :: _, [], _, _, _, _, h, _ => h.elim
 | _ :: _, _ :: _, [], _, _, _, h, _ => h.elim
theorem law_contractS {K : FuncId} {f : Func} {s : ChangeSpec} {apart fresh : Bool} {n : Nat} {tb : TypeId} (hl : laidOutB P = true) (hr : (f.params.toList.all fun t => P.readableRec t && Nat.blt t P.types.size) = true)
  (hd : f.params.toList.all (zrm P n) = true) (hvars : s.vars = []) (hres : f.resultTypes = #[tb]) (hb : P.underlying tb = some .bool)
  (hfn : ∀ ds : List (DataW H), ds.length = f.params.size -> s.fn H ds = { results := [.lit (.bool true)], args := ds })
  (hK : ∀ l, ziz P n f.params.toList l -> zap P K l (.bool true)) {W : World} (hG : Gw W.heap.size W) {base : Nat} {args : Array Value} {ds gs : List (DataW H)} {before : List MemPlace}
  (hval : ∀ (j : Nat) t v, f.params[j]? = some t -> args[j]? = some v -> Value.okWide P W .any base t v) (hW : DataW.Whole enc P f.params.toList s.vars apart W args.toList ds gs before) {vt : List TypeId} (hsz : (DataW.weightsEach P (f.params.toList ++ vt) (ds ++ gs)).all (· <= reachBytes) = true) :
  Calls P K args W fun e W' => ∃ v, e = .returned v /\ s.post enc P f apart fresh false false W args v W' := by
 have hW' := hW
 obtain ⟨p, q, hA, hV, rfl, hfz, hnd⟩ := hW
 rw [hvars] at hV
 have hlen : ds.length = f.params.size := by
  have : ∀ {ts : List TypeId} {vs : List Value} {ds : List (DataW H)} {ps : List MemPlace}, DataW.TrodAll enc P W 0 (fun _ => true) true ts vs ds ps -> ds.length = ts.length := by
   intro ts
   induction ts with
   | nil => intro vs ds ps h; cases vs <;> cases ds <;> first | rfl | exact h.elim
   | cons t ts ih => intro vs ds ps h; cases vs <;> cases ds <;> first | (obtain ⟨_, _, _, h2, _⟩ := h; simp [ih h2]) | exact h.elim
  simpa using this hA
 have hgs : gs = [] /\ q = [] := by
  cases gs with
  | nil => exact ⟨rfl, hV⟩
  | cons g gs => exact hV.elim
 obtain ⟨rfl, rfl⟩ := hgs
 obtain ⟨l, h1, h2⟩ := zn4 (fr := W.heap.size) hd (fun j t v h h' => hval j t v (by simpa using h) (by simpa using h')) hA (fun k hk => by
  have := List.all_eq_true.1 hsz k (zl7 hk)
  simpa using this)
 refine ((hK l h1).2 W _ hG h2).mono fun e W' ⟨v, he, hk, _, hv⟩ => ⟨v, he, ?_⟩
 simp only [rep] at hv
 subst hv
 have hB := hk.below
 have hlt := hW'.lt
 have hf := hfn ds hlen
 refine ⟨ds, [], p ++ [], [], p, [], hW', ?_, ?_, ?_, ?_, fun h => by cases h⟩
 rw [List.append_nil, hf, hres]
 exact ⟨[], [], ⟨1, by simp [DataW.trod, Value.cells, hb]⟩, rfl, rfl⟩
 rw [List.append_nil, hf]
 exact zn3 hl hB hr hA fun x hx => ⟨hlt x (by simp [hx]), by simpa using hlt x (by simp [hx])⟩
 rw [List.append_nil, hf, hvars]
 rfl
 exact hB.frame _
end
section
variable {P : Program} {n : Nat} {t : TypeId} {l : List D}
theorem zyg {k : IntKind} (hu : P.underlying t = some (.int k)) (h : zfr P (n + 1) t l) : ∃ m, l = [.int k m] := by
 rw [zfr, hu] at h; exact h
theorem zye (hu : P.underlying t = some .string) (h : zfr P (n + 1) t l) : ∃ s, l = [.str s] := by
 rw [zfr, hu] at h; exact h
theorem zxj {α : Type} {f : α -> D} {S : α -> Prop} {g : List D -> D} : ∀ (xs : List (List D)), (∀ x ∈ xs, ∃ y, g x = f y /\ S y) -> ∃ l : List α, xs.map g = l.map f /\ l.length = xs.length /\ ∀ y ∈ l, S y
 | [], _ => ⟨[], rfl, rfl, fun _ h => by cases h⟩
 | x :: xs, h => by
  obtain ⟨y, hy, hs⟩ := h x (by simp)
  obtain ⟨l, hl, hn, hS⟩ := zxj xs fun x hx => h x (by simp [hx])
  refine ⟨y :: l, by simp only [List.map_cons, hy, hl], by simp [hn], fun z hz => ?_⟩
  rcases List.mem_cons.1 hz with rfl | hz
  exact hs
  exact hS z hz
theorem zvm {α : Type} (f : α -> D) (S : α -> Prop) {e : TypeId} {s b : Nat} (hu : P.underlying t = some (.slice e)) (ha : aggT P t = false) (hc : P.cellsOf e = s) (hb : P.bytesOf e = b) (hx : ∀ x, zfr P n e x -> ∃ y, mkD P e x = f y /\ S y) (h : zfr P (n + 1) t l) :
  ∃ m : List α, mkD P t l = .imm s (m.map f) 4 /\ m.length * b <= 140737488355328 /\ ∀ y ∈ m, S y := by
 rw [zfr, hu] at h
 obtain ⟨xs, rfl, hle, hxs⟩ := h
 obtain ⟨m, hm, hn, hS⟩ := zxj (f := f) (S := S) (g := mkD P e) xs fun x hx' => hx x (hxs x hx')
 exact ⟨m, by rw [zqp ha, hm, hc], by rw [hn, <- hb]; exact hle, hS⟩
theorem zyf {e : TypeId} (hu : P.underlying t = some (.slice e)) (h : zfr P (n + 1) t l) : ∃ d, l = [d] := by
 rw [zfr, hu] at h
 obtain ⟨xs, rfl, _⟩ := h
 exact ⟨_, rfl⟩
theorem zmg {ts : List TypeId} (h : ziz P n (t :: ts) l) : ∃ c r, l = mkD P t c :: r /\ zfr P n t c /\ ziz P n ts r := h
theorem zt3 (h : ziz P n [] l) : l = [] := h
end
end Go.Tm
end
section
namespace Go.Proofs.YtafdfmkjjhimaaaGreatDoor.groupGoesOn
open Go.ChangeShapes Go.WideShapes Go.RowKit Go.Tm
set_option maxRecDepth 100000
theorem own : ownKnob Tryz.prog.godebug = none := by kernel_rfl
def sz3 (_ : Int) : Prop := True
theorem agg3 : aggT Tryz.prog 3 = false := by kernel_rfl
theorem ya4v : aggT Tryz.prog 55 = false := by kernel_rfl
def sz9 (_ : List UInt8) : Prop := True
theorem agg9 : aggT Tryz.prog 9 = false := by kernel_rfl
theorem ya6x : Tryz.prog.cellsOf 9 = 1 := by kernel_rfl
theorem ya70 : Tryz.prog.bytesOf 9 = 16 := by kernel_rfl
def sz55 (m : List (List UInt8)) : Prop := m.length * 16 <= 140737488355328 /\ ∀ y ∈ m, sz9 y
theorem tc55 {n : Nat} {l : List D} (h : zfr Tryz.prog (n + 2) 55 l) : ∃ m : List (List UInt8), l = [.imm 1 (m.map D.str) 4] /\ sz55 m := by
 obtain ⟨d, hd⟩ := zyf Tryz.underlying55 h
 obtain ⟨m, hm, hs⟩ := zvm D.str sz9 Tryz.underlying55 ya4v ya6x ya70 (fun x hx => by
  obtain ⟨a, ha⟩ := zye Tryz.underlying9 hx
  have hsa : sz9 a := trivial
  exact ⟨a, ha ▸ zqp agg9, hsa⟩) h
 rw [hd, zqp ya4v] at hm
 exact ⟨m, by rw [hd, hm], hs⟩
theorem ya3y : Tryz.f6.params.toList = [3, 55] := by kernel_rfl
theorem hK (l : List D) (h : ziz Tryz.prog 8 Tryz.f6.params.toList l) : zap Tryz.prog 6 l (.bool true) := by
 rw [ya3y] at h
 obtain ⟨c0, r0, e0, h0, h⟩ := zmg h
 obtain ⟨c1, r1, e1, h1, h⟩ := zmg h
 have ez := zt3 h
 obtain ⟨a0, f0⟩ := zyg Tryz.underlying3 h0
 have s0 : sz3 a0 := trivial
 obtain ⟨a1, f1, s1⟩ := tc55 (n := 6) h1
 rw [e0, e1, ez, f0, f1, zqp agg3, zqp ya4v]
 exact zhg a0 a1 _ (ya6p a0 a1)
end Go.Proofs.YtafdfmkjjhimaaaGreatDoor.groupGoesOn
end

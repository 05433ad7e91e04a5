/- Texts of the proof. -/
import Derived.WideKeyArgs
import Derived.ChangeSame
import Derived.ChangeArms
import Derived.OpenShut
import Derived.Carry
import Derived.Test.YtafdfmkjjhimaaaGreatDoorGroupPutsCardPn
import Derived.Test.YtafdfmkjjhimaaaGreatDoorGroupPutsCardPl
import Derived.Test.YtafdfmkjjhimaaaGreatDoorGroupPutsCardPm
import Derived.Test.YtafdfmkjjhimaaaGreatDoorGroupPutsCardPg
import Derived.Test.YtafdfmkjjhimaaaGreatDoorGroupPutsCardPh
import Derived.Test.YtafdfmkjjhimaaaGreatDoorGroupPutsCardPj
import Derived.Test.YtafdfmkjjhimaaaGreatDoorGroupPutsCardPf
namespace Go.Proofs
open Go.Tm
set_option linter.unusedSimpArgs false
theorem ya1h (m : TMessage) : ∀ (l : List Int) (n : Nat), zba m l n false = some false := by
 intro l
 induction l with
 | nil => intro n; rfl
 | cons y l ih => intro n; rw [zba]; simpa using ih (n + 1)
theorem zk1.groups {m : TMessage} (h : zk1 m) : m.Groups.length <= 4 := by
 apply Decidable.byContradiction
 intro hc
 unfold zk1 at h
 have e : ((decide ((m.Groups.length : Int) >= 1)) && (decide ((m.Groups.length : Int) <= 4))) = false := by
  rw [Bool.and_eq_false_iff]; right; simp; omega
 rw [zbj, e, ya1h] at h
 simp [zz4, zud] at h
theorem ya8i (a b : TMessage) : zdh a b = some (decide (a = b)) := by
 rw [zdh, zyv]
 obtain ⟨a1, a2, a3, a4, a5⟩ := a
 obtain ⟨b1, b2, b3, b4, b5⟩ := b
 by_cases h : a1 = b1
 by_cases h2 : a2 = b2 <;> by_cases h3 : a3 = b3 <;> by_cases h4 : a4 = b4 <;> by_cases h5 : a5 = b5 <;> simp [h, h2, h3, h4, h5]
 simp [h]
theorem ya8y (a b : TCommand) : zh1 a b = some (decide (a = b)) := by
 rw [zh1, ya8i, zyv]
 obtain ⟨a1, a2, a3, a4, a5, a6, a7, a8⟩ := a
 obtain ⟨b1, b2, b3, b4, b5, b6, b7, b8⟩ := b
 by_cases h : a1 = b1
 by_cases h2 : a2 = b2
 by_cases h3 : a3 = b3
 by_cases h4 : a4 = b4
 by_cases h5 : a5 = b5 <;> by_cases h6 : a6 = b6 <;> by_cases h7 : a7 = b7 <;> by_cases h8 : a8 = b8 <;> simp [h, h2, h3, h4, h5, h6, h7, h8]
 simp [h, h2, h3, h4]
 simp [h, h2, h3]
 simp [h, h2]
 simp [h]
theorem ya1b (c : TCommand) : ∃ p ok, zfj c = some (p, ok) /\ (c.Kind = 1 -> ok = true -> zk1 c.Message) /\ (c.Kind = 2 -> ok = true -> IdOk c.Id /\ 1 <= c.Time /\ c.Time <= 1073741824) := by
 rw [zfj, zz4]
 simp only [za1]
 obtain ⟨v2, h2⟩ : ∃ v2, (if decide (IdOk c.Id) = true then zd8 c.Topic 0 3 else some default) = some v2 := by split <;> exact ⟨_, by first | exact zud _ _ _ | rfl⟩
 rw [h2]
 simp only [za1]
 obtain ⟨v3, h3⟩ : ∃ v3, (if decide (IdOk c.Id) = true /\ v2 = true then zd8 c.N 0 1073741824 else some default) = some v3 := by split <;> exact ⟨_, by first | exact zud _ _ _ | rfl⟩
 rw [h3]
 simp only [za1]
 by_cases k0 : c.Kind = 0
 rw [if_pos k0]; exact ⟨_, _, rfl, by intro h; omega, by intro h; omega⟩
 rw [if_neg k0]
 by_cases k1 : c.Kind = 1
 rw [if_pos k1]
 obtain ⟨e, he⟩ := (zx1 c.Message).1
 rw [he]
 exact ⟨_, _, rfl, fun _ h => by rw [zk1, he]; simp at h; rw [h], by intro h; omega⟩
 rw [if_neg k1]
 by_cases k2 : c.Kind = 2
 rw [if_pos k2]
 by_cases hi : IdOk c.Id
 simp only [hi, decide_true, if_true, za1, zud]
 exact ⟨_, _, rfl, by intro h; omega, fun _ h => ⟨trivial, by simpa using h⟩⟩
 simp only [hi, decide_false, zan, if_false, za1]
 exact ⟨_, _, rfl, by intro h; omega, fun _ h => by simp at h⟩
 rw [if_neg k2]
 by_cases k3 : c.Kind = 3
 rw [if_pos k3, ya15]
 exact ⟨_, _, rfl, by intro h; omega, by intro h; omega⟩
 rw [if_neg k3]
 by_cases k4 : c.Kind = 4
 rw [if_pos k4]
 obtain ⟨v8, h8⟩ : ∃ v8, (if (decide (IdOk c.Id) = true /\ v2 = true) /\ v3 = true then zd8 c.Who 0 7 else some default) = some v8 := by split <;> exact ⟨_, by first | exact zud _ _ _ | rfl⟩
 rw [h8]
 exact ⟨_, _, rfl, by intro h; omega, by intro h; omega⟩
 rw [if_neg k4]
 by_cases k5 : c.Kind = 5
 rw [if_pos k5]
 simp only [za1, k5]
 exact ⟨_, _, rfl, by intro h; omega, by intro h; omega⟩
 rw [if_neg k5]
 simp only [za1]
 by_cases k6 : (c.Kind == 6) = true
 rw [if_pos k6]; exact ⟨_, _, rfl, by intro h; omega, by intro h; omega⟩
 rw [if_neg k6]; exact ⟨_, _, rfl, by intro h; omega, by intro h; omega⟩
theorem zxj (c : TCommand) : ∃ e, zb6 c = some e /\ (e = 0 -> (c.Kind = 1 -> zk1 c.Message) /\ (c.Kind = 2 -> IdOk c.Id /\ 1 <= c.Time /\ c.Time <= 1073741824)) := by
 obtain ⟨p, ok, h, h1, h2⟩ := ya1b c
 rw [zb6, h]
 simp only [za1, ya8y]
 cases ok with
 | false => exact ⟨120, by simp, by intro h; cases h⟩
 | true =>
  simp only [not_true_eq_false, not_false_eq_true, if_true, za1, false_or]
  split
  exact ⟨120, rfl, by intro h; cases h⟩
  exact ⟨0, rfl, fun _ => ⟨fun k => h1 k rfl, fun k => h2 k rfl⟩⟩
theorem zsh (l : List Int) (h : l.length * 8 <= 140737488355328) : zc8 l = some l := by rw [zc8, if_pos h]
theorem zzd (v : List TWait) (hv : v.length < 1000000) : ∀ (fu k : Nat) (l : List TWait), l.length = v.length -> v.length - k < fu -> k <= v.length -> (∀ w ∈ l, w.Message.Groups.length * 8 <= 140737488355328) -> zd7 v fu l (k : Int) = some l := by
 intro fu
 induction fu with
 | zero => intro k l _ h; omega
 | succ fu ih =>
  intro k l hl h hk hg
  rw [zd7]
  by_cases hlt : k < v.length
  have hk' : k < l.length := by omega
  have hgd : l.getD (k : Int).toNat default = l[k] := by simp [List.getD, List.getElem?_eq_getElem hk']
  have hw : wr .i64 ((k : Int) + 1) = ((k + 1 : Nat) : Int) := zl8 _ _ (by show (-9223372036854775808 : Int) <= _; omega) (by show _ <= (9223372036854775807 : Int); omega)
  rw [if_pos (by omega), if_pos (by omega), hgd, zsh _ (hg _ (List.getElem_mem hk'))]
  simp only [za1]
  have e : l.set (k : Int).toNat l[k] = l := by rw [Int.toNat_natCast]; simp
  rw [if_pos (by omega)]
  show zd7 v fu (l.set (k : Int).toNat l[k]) (wr .i64 ((k : Int) + 1)) = _
  rw [e, hw]
  exact ih (k + 1) l hl (by omega) (by omega) hg
  rw [if_neg (by omega), if_pos (by omega)]
theorem zwi (s : TSkeen) (h1 : s.Waits.length <= 1000) (h2 : s.Done.length <= 1000) (h3 : ∀ w ∈ s.Waits, w.Message.Groups.length * 8 <= 140737488355328) : zdu s = some s := by
 rw [zdu, ze9, if_pos (by omega), ze0, if_pos (by omega)]
 simp only [za1]
 have := zzd s.Waits (by omega) (s.Waits.length + 1) 0 s.Waits rfl (by omega) (by omega) h3
 rw [show ((0 : Nat) : Int) = 0 from rfl] at this
 rw [this]
 rfl
structure J (c : Int) (W : List TWait) (D : List TStamp) : Prop where
 c1 : c <= 1073741824
 d : DOk c D
 w : WOk c D W
theorem V.j {s : TSkeen} (h : V s) : J s.Clock s.Waits s.Done := ⟨h.c1, h.d, h.w⟩
theorem J.ids {c : Int} {W : List TWait} {D : List TStamp} (h : J c W D) : ∀ w ∈ W, IdOk w.Message.Id := fun w hw => (h.w.1 w hw).1.id
theorem J.mono {c c' : Int} {W : List TWait} {D : List TStamp} (h : J c W D) (h1 : c <= c') (h2 : c' <= 1073741824) : J c' W D :=
 ⟨h2, ⟨fun x hx => by have := h.d.1 x hx; exact ⟨this.1, this.2.1, by omega⟩, h.d.2⟩, ⟨fun w hw => by have := h.w.1 w hw; exact ⟨this.1, this.2.1, by have := this.2.2.1; omega, this.2.2.2⟩, h.w.2⟩⟩
theorem ya3y {W : List TWait} (hu : zqj W) {a b : TWait} (ha : a ∈ W) (hb : b ∈ W) (h : a.Message.Id = b.Message.Id) : a = b := by
 obtain ⟨i, hi, rfl⟩ := List.getElem_of_mem ha
 obtain ⟨j, hj, rfl⟩ := List.getElem_of_mem hb
 rcases Nat.lt_trichotomy i j with hh | hh | hh
 have := List.pairwise_iff_getElem.1 hu i j hi hj hh; omega
 subst hh; rfl
 have := List.pairwise_iff_getElem.1 hu j i hj hi hh; omega
theorem ya3q (s : TSkeen) (id t : Int) (hl : s.Waits.length < 1000000) (hj : J s.Clock s.Waits s.Done) (hi : IdOk id) :
  (zcq ⟨s⟩ id t = some ⟨s⟩ /\ ∀ w ∈ s.Waits, w.Message.Id = id -> w.Final = true \/ t < w.Time) \/
  ∃ (k : Nat) (hk : k < s.Waits.length), s.Waits[k].Message.Id = id /\ s.Waits[k].Final = false /\ s.Waits[k].Time <= t /\ zcq ⟨s⟩ id t = some ⟨⟨max s.Clock t, s.Waits.set k ⟨s.Waits[k].Message, t, true⟩, s.Done⟩⟩ := by
 rw [zcq, zx9 ⟨s⟩ id hl hj.w.2 hj.ids hi]
 simp only [za1]
 have hp := ya19 id s.Waits hj.w.2
 by_cases hx : ∃ w ∈ s.Waits, w.Message.Id = id
 obtain ⟨hk, he⟩ := hp.1 hx
 have hgd : s.Waits.getD ((plc id s.Waits : Nat) : Int).toNat default = s.Waits[plc id s.Waits] := by rw [Int.toNat_natCast]; simp [List.getD, List.getElem?_eq_getElem hk]
 have hgd2 : ∀ x : TWait, (s.Waits.set ((plc id s.Waits : Nat) : Int).toNat x).getD ((plc id s.Waits : Nat) : Int).toNat default = x := by
  intro x; rw [Int.toNat_natCast]; simp [List.getD, hk]
 simp only [hx, decide_true, not_true_eq_false, not_false_eq_true, false_or, hgd, hgd2]
 rw [if_pos (by intro _; omega), if_pos (by intro _; omega)]
 by_cases hf : s.Waits[plc id s.Waits].Final = true \/ t < s.Waits[plc id s.Waits].Time
 left
 rw [if_pos hf]
 refine ⟨rfl, fun w hw hid => ?_⟩
 have := ya3y hj.w.2 hw (List.getElem_mem hk) (hid.trans he.symm)
 rw [this]; exact hf
 right
 rw [if_neg hf, if_pos (by omega), if_pos (by simp only [List.length_set]; omega)]
 refine ⟨plc id s.Waits, hk, he, ?_, by omega, ?_⟩
 cases hq : s.Waits[plc id s.Waits].Final with
 | false => rfl
 | true => exact absurd (.inl hq) hf
 rw [Int.toNat_natCast, List.set_set]
 left
 have hx' : ∀ w ∈ s.Waits, w.Message.Id ≠ id := fun w hw he => hx ⟨w, hw, he⟩
 simp only [hx, decide_false, zan, not_false_eq_true, not_true_eq_false, false_implies, if_true, true_or]
 exact ⟨trivial, fun w hw he => absurd he (hx' w hw)⟩
theorem J.set {c t : Int} {W : List TWait} {D : List TStamp} (h : J c W D) (k : Nat) (hk : k < W.length) (h1 : W[k].Time <= t) (h2 : t <= 1073741824) : J (max c t) (W.set k ⟨W[k].Message, t, true⟩) D := by
 have h' := h.mono (c' := max c t) (Int.le_max_left _ _) (by have := h.c1; omega)
 refine ⟨h'.c1, h'.d, fun w hw => ?_, ?_⟩
 rcases List.mem_or_eq_of_mem_set hw with hw | rfl
 exact h'.w.1 w hw
 have hm := h'.w.1 _ (List.getElem_mem hk)
 refine ⟨hm.1, by have := hm.2.1; show 1 <= t; omega, Int.le_max_right _ _, hm.2.2.2.1, fun x hx => ?_⟩
 have hl := hm.2.2.2.2 x hx
 show ltS x ⟨t, W[k].Message.Id⟩
 unfold ltS stW at *
 simp only at hl ⊢
 omega
 have hu := h.w.2
 unfold zqj at hu ⊢
 rw [<- List.pairwise_map (f := fun w : TWait => w.Message.Id) (R := fun a b => a < b)] at hu ⊢
 rw [List.map_set]
 have : (W.map fun w : TWait => w.Message.Id).set k W[k].Message.Id = W.map fun w : TWait => w.Message.Id := by
  apply List.ext_getElem
  simp
  intro i h1 h2
  rw [List.getElem_set]
  split
  rename_i e; subst e; simp
  rfl
 rw [this]
 exact hu
theorem ya2g (s : TSkeen) (g : Int) (m : TMessage) (hl : s.Waits.length <= 200) (hc0 : 0 <= s.Clock) (hj : J s.Clock s.Waits s.Done) (hm : zk1 m) :
  (∃ e, zcg ⟨s⟩ g m = some (e, ⟨s⟩)) \/
  (g ∈ m.Groups /\ s.Clock < 1073741824 /\ s.Waits.length < 200 /\ (∀ x ∈ s.Done, x.Id ≠ m.Id) /\ (∀ w ∈ s.Waits, w.Message.Id ≠ m.Id) /\
   zcg ⟨s⟩ g m = some (0, ⟨⟨s.Clock + 1, s.Waits.take (plc m.Id s.Waits) ++ ⟨m, s.Clock + 1, false⟩ :: s.Waits.drop (plc m.Id s.Waits), s.Done⟩⟩)) := by
 rw [zcg, zx9 ⟨s⟩ m.Id (by show s.Waits.length < 1000000; omega) hj.w.2 hj.ids hm.id, ya5n]
 simp only [za1]
 by_cases hx : ∃ w ∈ s.Waits, w.Message.Id = m.Id
 left
 simp only [hx, decide_true, not_true_eq_false, if_false, true_or, za1, if_true]
 exact ⟨0, rfl⟩
 have hx' : ∀ w ∈ s.Waits, w.Message.Id ≠ m.Id := fun w hw he => hx ⟨w, hw, he⟩
 simp only [hx, decide_false, zan, not_false_eq_true, if_true, false_or, za1]
 cases hd : s.Done.any fun x => x.Id == m.Id with
 | true =>
  left
  simp only [not_true_eq_false, if_false, za1, true_or, if_true]
  exact ⟨0, rfl⟩
 | false =>
  have hd' : ∀ x ∈ s.Done, x.Id ≠ m.Id := by
   intro x hxd he
   have := List.any_eq_false.1 hd x hxd
   simp [he] at this
  have hg := zxg m.Groups g
  simp only [zan, not_false_eq_true, if_true, false_or, za1, hg]
  by_cases hgm : g ∈ m.Groups
  simp only [hgm, decide_true, not_true_eq_false, if_false]
  by_cases hfull : s.Clock = 1073741824 \/ (s.Waits.length : Int) = 200
  left; rw [if_pos hfull]; exact ⟨9, rfl⟩
  right
  have hc1 := hj.c1
  rw [if_neg hfull, zsh _ (by have := hm.groups; omega)]
  simp only [za1]
  have hple := zy9 m.Id s.Waits
  rw [if_pos (by omega), if_pos (by omega), zl8 _ _ (by show (-9223372036854775808 : Int) <= _; omega) (by show _ <= (9223372036854775807 : Int); omega), Int.toNat_natCast]
  exact ⟨trivial, by omega, by omega, hd', hx', rfl⟩
  left
  simp only [hgm, decide_false, zan, not_false_eq_true, if_true]
  exact ⟨0, rfl⟩
theorem J.ins {c : Int} {W : List TWait} {D : List TStamp} (h : J c W D) (m : TMessage) (hm : zk1 m) (h0 : 0 <= c) (h1 : c < 1073741824) (hD : ∀ x ∈ D, x.Id ≠ m.Id) (hW : ∀ w ∈ W, w.Message.Id ≠ m.Id) :
  J (c + 1) (W.take (plc m.Id W) ++ ⟨m, c + 1, false⟩ :: W.drop (plc m.Id W)) D := by
 have h' := h.mono (c' := c + 1) (by omega) (by omega)
 refine ⟨h'.c1, h'.d, fun w hw => ?_, ?_⟩
 have : w = ⟨m, c + 1, false⟩ \/ w ∈ W := by
  rcases List.mem_append.1 hw with hw | hw
  exact .inr (List.mem_of_mem_take hw)
  rcases List.mem_cons.1 hw with hw | hw
  exact .inl hw
  exact .inr (List.mem_of_mem_drop hw)
 rcases this with rfl | hw
 refine ⟨hm, by show 1 <= c + 1; omega, Int.le_refl _, hD, fun x hx => ?_⟩
 have := (h.d.1 x (List.mem_of_getLast? hx)).2.2
 exact .inl (by show x.Time < c + 1; omega)
 exact h'.w.1 w hw
 have hu := h.w.2
 have hlt := zy8 m.Id W hu
 have hple := zy9 m.Id W
 have t1 : ∀ w ∈ W.take (plc m.Id W), w.Message.Id < m.Id := by
  intro w hw
  obtain ⟨i, hi, rfl⟩ := List.getElem_of_mem hw
  rw [List.getElem_take]
  have : i < plc m.Id W := by simp at hi; omega
  exact (hlt i (by omega)).2 this
 have t2 : ∀ w ∈ W.drop (plc m.Id W), m.Id < w.Message.Id := by
  intro w hw
  have hwW := List.mem_of_mem_drop hw
  obtain ⟨i, hi, rfl⟩ := List.getElem_of_mem hw
  have hne := hW _ hwW
  rw [List.getElem_drop] at hne ⊢
  have hi' : plc m.Id W + i < W.length := by simp at hi; omega
  have : ¬ W[plc m.Id W + i].Message.Id < m.Id := fun k => by have := (hlt _ hi').1 k; omega
  omega
 unfold zqj
 rw [List.pairwise_append]
 refine ⟨hu.sublist (List.take_sublist _ _), List.pairwise_cons.2 ⟨t2, hu.sublist (List.drop_sublist _ _)⟩, fun a ha b hb => ?_⟩
 have ha' := t1 a ha
 rcases List.mem_cons.1 hb with rfl | hb
 exact ha'
 have := t2 b hb; omega
theorem ya3t (c0 : Tskeen_clock) (c : Int) : ∀ (fu : Nat) (W : List TWait) (D : List TStamp) (M : List TMessage), W.length < fu -> J c W D -> W.length + D.length <= 1000 -> M.length + W.length <= 1000 ->
  ∃ (ws W' : List TWait), zb5 c0 fu W D M = some (W', D ++ ws.map stW, M ++ ws.map TWait.Message) /\ J c W' (D ++ ws.map stW) /\ (∀ y l, W' = y :: l -> (minW y l).Final = false) /\
   (∀ w ∈ ws, w ∈ W /\ w.Final = true) /\ (∀ w ∈ W', w ∈ W) /\ (∀ w ∈ W, w ∈ W' \/ w ∈ ws) /\ W'.length + ws.length = W.length := by
 intro fu
 induction fu with
 | zero => intro W D M h; omega
 | succ fu ih =>
  intro W D M h hj h1 h2
  rw [zb5]
  cases hW : W with
  | nil =>
   refine ⟨[], [], by simp, by subst hW; simpa using hj, by simp, by simp, by simp, by simp, rfl⟩
  | cons y l =>
   rw [if_pos (by simp only [za5]; omega), ya1l y l (by rw [hW] at h1; simp at h1; omega)]
   simp only [za1]
   have hmem : minW y l ∈ W := by
    rw [hW]
    rcases ya3f l y with hh | hh
    rw [hh]; simp
    exact zaj _ hh
   by_cases hf : (minW y l).Final = true
   rw [if_neg (by simp [hf])]
   have hfd := zx9 ⟨⟨c0.Skeen.Clock, W, D⟩⟩ (minW y l).Message.Id (by show W.length < 1000000; omega) hj.w.2 hj.ids (hj.ids _ hmem)
   rw [<- hW, hfd]
   simp only [za1]
   obtain ⟨hk, he⟩ := (ya19 (minW y l).Message.Id W hj.w.2).1 ⟨_, hmem, rfl⟩
   generalize hK : plc (minW y l).Message.Id W = K at hk he
   have hat : W[K] = minW y l := ya3y hj.w.2 (List.getElem_mem hk) hmem he
   rw [if_pos (by omega), if_pos (by omega)]
   have e1 : zff (minW y l) = some (stW (minW y l)) := rfl
   rw [e1]
   simp only [za1, za5, zac, Int.toNat_natCast]
   have hWl : W.length = l.length + 1 := by rw [hW]; simp
   rw [if_pos (by omega), if_pos (by omega)]
   have hv := hj.w.1 _ hmem
   have hsub : ∀ w ∈ W.eraseIdx K, w ∈ W := fun w hw => List.mem_of_mem_eraseIdx hw
   have hne : ∀ w ∈ W.eraseIdx K, w.Message.Id ≠ (minW y l).Message.Id := by
    intro w hw hid
    obtain ⟨i, hi, hik, rfl⟩ := List.mem_eraseIdx_iff_getElem.1 hw
    have e2 := ya3y hj.w.2 (List.getElem_mem hi) hmem hid
    rw [<- hat] at hid
    rcases Nat.lt_or_gt_of_ne hik with hh | hh
    have := List.pairwise_iff_getElem.1 hj.w.2 i K hi hk hh; omega
    have := List.pairwise_iff_getElem.1 hj.w.2 K i hk hi hh; omega
   have hle : ∀ w ∈ W, ¬ ltS (stW w) (stW (minW y l)) := by
    intro w hw
    rw [hW] at hw
    rcases List.mem_cons.1 hw with rfl | hw
    exact (ya1m l _).1
    exact (ya1m l y).2 w hw
   have hid := hv.1.id
   have hJ : J c (W.eraseIdx K) (D ++ [stW (minW y l)]) := by
    refine ⟨hj.c1, (hj.d.snoc _).2 ⟨⟨⟨?_, ?_, hid.1, ?_⟩, hv.2.1, hv.2.2.1⟩, hv.2.2.2.2, fun hm => ?_⟩, fun w hw => ?_, hj.w.2.sublist (List.eraseIdx_sublist _ _)⟩
    have := hv.2.1; show 0 <= (minW y l).Time; omega
    have := hv.2.2.1; have := hj.c1; show (minW y l).Time <= 1073741824; omega
    have := hid.2; show (minW y l).Message.Id < 6291456; omega
    obtain ⟨x, hx, he2⟩ := List.mem_map.1 hm
    exact hv.2.2.2.1 x hx he2
    have hw1 := hj.w.1 w (hsub w hw)
    refine ⟨hw1.1, hw1.2.1, hw1.2.2.1, fun x hx => ?_, fun x hx => ?_⟩
    rcases List.mem_append.1 hx with hx | hx
    exact hw1.2.2.2.1 x hx
    simp at hx; subst hx; exact fun e => hne w hw e.symm
    simp at hx; subst hx
    exact ya1o (fun e => hne w hw e.symm) (hle w (hsub w hw))
   have hlen : (W.eraseIdx K).length = W.length - 1 := List.length_eraseIdx_of_lt hk
   obtain ⟨ws, W', g1, g2, g3, g4, g5, g6, g7⟩ := ih (W.eraseIdx K) (D ++ [stW (minW y l)]) (M ++ [(minW y l).Message]) (by omega) hJ (by simp; omega) (by simp; omega)
   refine ⟨minW y l :: ws, W', ?_, ?_, g3, ?_, ?_, ?_, ?_⟩
   rw [g1]; simp
   simpa using g2
   intro w hw
   rcases List.mem_cons.1 hw with rfl | hw
   exact ⟨hmem, hf⟩
   exact ⟨hsub w (g4 w hw).1, (g4 w hw).2⟩
   intro w hw; exact hsub w (g5 w hw)
   intro w hw
   by_cases hwv : w = minW y l
   right; simp [hwv]
   have : w ∈ W.eraseIdx K := by
    obtain ⟨i, hi, rfl⟩ := List.getElem_of_mem hw
    exact List.mem_eraseIdx_iff_getElem.2 ⟨i, hi, fun e => hwv (by subst e; exact hat), rfl⟩
   rcases g6 w this with hh | hh
   exact .inl hh
   exact .inr (zaj _ hh)
   simp only [za5]; omega
   rw [if_pos (by simpa using hf)]
   refine ⟨[], W, by simp [hW], by simpa using hj, fun y' l' hh => ?_, by simp, by intro w hw; rw [<- hW]; exact hw, by intro w hw; left; rw [hW]; exact hw, by simp [hW]⟩
   rw [hW] at hh; cases hh; simpa using hf
def Step (s : TSkeen) (g : Int) (c : TCommand) (W : List TWait) (ck : Int) : Prop :=
 (W = s.Waits /\ ck = s.Clock) \/
 (c.Kind = 1 /\ g ∈ c.Message.Groups /\ ck = s.Clock + 1 /\ W = s.Waits.take (plc c.Message.Id s.Waits) ++ ⟨c.Message, s.Clock + 1, false⟩ :: s.Waits.drop (plc c.Message.Id s.Waits)) \/
 (c.Kind = 2 /\ ck = max s.Clock c.Time /\ ∃ (k : Nat) (hk : k < s.Waits.length), s.Waits[k].Message.Id = c.Id /\ s.Waits[k].Final = false /\ s.Waits[k].Time <= c.Time /\ W = s.Waits.set k ⟨s.Waits[k].Message, c.Time, true⟩)
def zSk : TSkeen := ⟨0, [], []⟩
theorem zz5 {s : TSkeen} (h : V s) : zft s = some 0 := by
 obtain ⟨e, he, hi⟩ := zy0 s
 rw [he, hi.2 h]
theorem zut (s : TSkeen) (g : Int) (c : TCommand) (h : V s) :
  (∃ e, e ≠ 0 /\ zcc s g c = some (zSk, [], e) /\ (0 <= g /\ g < 4 -> zb6 c = some 0 -> c.Kind = 2 -> s.Waits.length + s.Done.length > 200)) \/
  ∃ (W : List TWait) (ck : Int) (ws W' : List TWait), Step s g c W ck /\ zcc s g c = some (⟨ck, W', s.Done ++ ws.map stW⟩, ws.map TWait.Message, 0) /\ V ⟨ck, W', s.Done ++ ws.map stW⟩ /\ s.Clock <= ck /\ 
   (∀ w ∈ ws, w ∈ W /\ w.Final = true) /\ (∀ w ∈ W', w ∈ W) /\ (∀ w ∈ W, w ∈ W' \/ w ∈ ws) /\ W'.length + ws.length = W.length /\ 
   (c.Kind = 2 -> ∀ w ∈ s.Waits, w.Message.Id = c.Id -> w.Final = false -> w.Time <= c.Time -> ∃ (k : Nat) (hk : k < s.Waits.length), s.Waits[k] = w /\ W = s.Waits.set k ⟨w.Message, c.Time, true⟩) := by
 have hj := h.j
 have hlw := h.lw
 have hld := h.ld
 rw [zcc, zz5 h]
 simp only [za1, not_true_eq_false, if_false]
 by_cases hg : g < 0 \/ g >= 4
 rw [if_pos hg]
 exact .inl ⟨2, by omega, rfl, by intro h; omega⟩
 rw [if_neg hg]
 obtain ⟨e, he, hc⟩ := zxj c
 rw [he]
 simp only [za1]
 by_cases he0 : e = 0
 case neg => rw [if_pos he0]; exact .inl ⟨e, he0, rfl, by intro _ h; exact absurd (sj h) he0⟩
 obtain ⟨hc1, hc2⟩ := hc he0
 have htw : zdu s = some s := zwi s (by omega) (by omega) (fun w hw => by have := (hj.w.1 w hw).1.groups; omega)
 rw [if_neg (by omega), htw]
 simp only [za1]
 -- the end: what is delivered
 have fin : ∀ (W : List TWait) (ck : Int), J ck W s.Done -> 0 <= ck -> W.length <= 200 -> ∃ (ws W' : List TWait), zcr ⟨⟨ck, W, s.Done⟩⟩ = some (ws.map TWait.Message, ⟨⟨ck, W', s.Done ++ ws.map stW⟩⟩) /\
   ((s.Done ++ ws.map stW).length <= 200 -> V ⟨ck, W', s.Done ++ ws.map stW⟩) /\ (∀ w ∈ ws, w ∈ W /\ w.Final = true) /\ (∀ w ∈ W', w ∈ W) /\ (∀ w ∈ W, w ∈ W' \/ w ∈ ws) /\ W'.length + ws.length = W.length := by
  intro W ck hJ h0 hl
  obtain ⟨ws, W', g1, g2, g3, g4, g5, g6, g7⟩ := ya3t ⟨⟨ck, W, s.Done⟩⟩ ck (W.length + 1) W s.Done [] (by omega) hJ (by omega) (by simp; omega)
  refine ⟨ws, W', ?_, fun hd => ⟨h0, g2.c1, by show W'.length <= 200; omega, hd, g2.d, g2.w, g3⟩, g4, g5, g6, g7⟩
  rw [zcr, g1]
  simp
 by_cases k1 : c.Kind = 1
 rw [if_pos k1]
 rcases ya2g s g c.Message hlw h.c0 hj (hc1 k1) with ⟨e2, ha⟩ | ⟨a1, a2, a3, a4, a5, ha⟩
 have ha' : zcg ⟨s⟩ g c.Message = _ := ha
 rw [ha']
 simp only [za1]
 by_cases he2 : e2 = 0
 rw [if_neg (by omega)]
 simp only [za1]
 obtain ⟨ws, W', d1, d2, d3, d4, d5, d6⟩ := fin s.Waits s.Clock hj h.c0 hlw
 rw [d1]
 simp only [za1]
 by_cases hfull : ((s.Done ++ ws.map stW).length : Int) > 200
 rw [if_pos hfull]; exact .inl ⟨9, by omega, rfl, by intro _ _ h; omega⟩
 rw [if_neg hfull]
 exact .inr ⟨s.Waits, s.Clock, ws, W', .inl ⟨rfl, rfl⟩, rfl, d2 (by omega), Int.le_refl _, d3, d4, d5, d6, by intro h; omega⟩
 rw [if_pos he2]
 exact .inl ⟨e2, he2, rfl, by intro _ _ h; omega⟩
 have ha' : zcg ⟨s⟩ g c.Message = _ := ha
 rw [ha']
 simp only [za1, not_true_eq_false, if_false]
 have hpl := zy9 c.Message.Id s.Waits
 obtain ⟨ws, W', d1, d2, d3, d4, d5, d6⟩ := fin _ _ (hj.ins c.Message (hc1 k1) h.c0 a2 a4 a5) (by have := h.c0; omega) (by simp; omega)
 rw [d1]
 simp only [za1]
 by_cases hfull : ((s.Done ++ ws.map stW).length : Int) > 200
 rw [if_pos hfull]; exact .inl ⟨9, by omega, rfl, by intro _ _ h; omega⟩
 rw [if_neg hfull]
 exact .inr ⟨_, s.Clock + 1, ws, W', .inr (.inl ⟨k1, a1, rfl, rfl⟩), rfl, d2 (by omega), by omega, d3, d4, d5, d6, by intro h; omega⟩
 rw [if_neg k1]
 by_cases k2 : c.Kind = 2
 rw [if_pos k2]
 obtain ⟨i1, i2, i3⟩ := hc2 k2
 rcases ya3q s c.Id c.Time (by omega) hj i1 with ⟨hf, hno⟩ | ⟨k, hk, b1, b2, b3, hf⟩
 have hf' : zcq ⟨s⟩ c.Id c.Time = _ := hf
 rw [hf']
 simp only [za1]
 obtain ⟨ws, W', d1, d2, d3, d4, d5, d6⟩ := fin s.Waits s.Clock hj h.c0 hlw
 rw [d1]
 simp only [za1]
 by_cases hfull : ((s.Done ++ ws.map stW).length : Int) > 200
 rw [if_pos hfull]
 refine .inl ⟨9, by omega, rfl, fun _ _ _ => ?_⟩
 simp at hfull; omega
 rw [if_neg hfull]
 refine .inr ⟨s.Waits, s.Clock, ws, W', .inl ⟨rfl, rfl⟩, rfl, d2 (by omega), Int.le_refl _, d3, d4, d5, d6, fun _ w hw hid hfn ht => ?_⟩
 rcases hno w hw hid with hh | hh
 rw [hfn] at hh; cases hh
 omega
 have hf' : zcq ⟨s⟩ c.Id c.Time = _ := hf
 rw [hf']
 simp only [za1]
 obtain ⟨ws, W', d1, d2, d3, d4, d5, d6⟩ := fin _ _ (hj.set k hk b3 i3) (by have := h.c0; have := Int.le_max_left s.Clock c.Time; omega) (by simpa using hlw)
 rw [d1]
 simp only [za1]
 by_cases hfull : ((s.Done ++ ws.map stW).length : Int) > 200
 rw [if_pos hfull]
 refine .inl ⟨9, by omega, rfl, fun _ _ _ => ?_⟩
 simp at hfull d6; omega
 rw [if_neg hfull]
 refine .inr ⟨_, max s.Clock c.Time, ws, W', .inr (.inr ⟨k2, rfl, k, hk, b1, b2, b3, rfl⟩), rfl, d2 (by omega), Int.le_max_left _ _, d3, d4, d5, d6, fun _ w hw hid hfn ht => ?_⟩
 have := ya3y hj.w.2 hw (List.getElem_mem hk) (hid.trans b1.symm)
 exact ⟨k, hk, this.symm, by rw [this]⟩
 rw [if_neg k2]
 simp only [za1]
 obtain ⟨ws, W', d1, d2, d3, d4, d5, d6⟩ := fin s.Waits s.Clock hj h.c0 hlw
 rw [d1]
 simp only [za1]
 by_cases hfull : ((s.Done ++ ws.map stW).length : Int) > 200
 rw [if_pos hfull]; exact .inl ⟨9, by omega, rfl, by intro _ _ h; omega⟩
 rw [if_neg hfull]
 exact .inr ⟨s.Waits, s.Clock, ws, W', .inl ⟨rfl, rfl⟩, rfl, d2 (by omega), Int.le_refl _, d3, d4, d5, d6, by intro h; omega⟩
end Go.Proofs
namespace Go.Proofs
open Go.Tm
set_option linter.unusedVariables false
open Classical
theorem ixI (f : Int -> Option Bool) (p : Int -> Bool) (hf : ∀ x, f x = some (p x)) : ∀ (l : List Int) (n : Nat), zbg f l n = some (if l.any p then .inl ((n + (l.takeWhile fun x => !p x).length : Nat) : Int) else .inr ())
 | [], n => rfl
 | y :: r, n => by
  simp only [zbg, hf, za1, List.any_cons, List.takeWhile_cons]
  cases h : p y
  simp only [zan, if_false, Bool.false_or, Bool.not_false, if_true, za5]
  rw [ixI f p hf r (n + 1), Nat.add_assoc, Nat.add_comm 1]
  simp
theorem anyI (f : Int -> Option Bool) (p : Int -> Bool) (hf : ∀ x, f x = some (p x)) (l : List Int) : zc0 l f = some (l.any p) := by
 unfold zc0 zdz
 rw [ixI f p hf]
 cases h : l.any p
 simp
 simp
theorem ixL (f : List Int -> Option Bool) (p : List Int -> Bool) (hf : ∀ x, f x = some (p x)) : ∀ (l : List (List Int)) (n : Nat), zbc f l n = some (if l.any p then .inl ((n + (l.takeWhile fun x => !p x).length : Nat) : Int) else .inr ())
 | [], n => rfl
 | y :: r, n => by
  simp only [zbc, hf, za1, List.any_cons, List.takeWhile_cons]
  cases h : p y
  simp only [zan, if_false, Bool.false_or, Bool.not_false, if_true, za5]
  rw [ixL f p hf r (n + 1), Nat.add_assoc, Nat.add_comm 1]
  simp
theorem anyL (f : List Int -> Option Bool) (p : List Int -> Bool) (hf : ∀ x, f x = some (p x)) (l : List (List Int)) : zcb l f = some (l.any p) := by
 unfold zcb zdj
 rw [ixL f p hf]
 cases h : l.any p
 simp
 simp
theorem ixT (f : TTopic -> Option Bool) (p : TTopic -> Bool) (hf : ∀ x, f x = some (p x)) : ∀ (l : List TTopic) (n : Nat), zb3 f l n = some (if l.any p then .inl ((n + (l.takeWhile fun x => !p x).length : Nat) : Int) else .inr ())
 | [], n => rfl
 | y :: r, n => by
  simp only [zb3, hf, za1, List.any_cons, List.takeWhile_cons]
  cases h : p y
  simp only [zan, if_false, Bool.false_or, Bool.not_false, if_true, za5]
  rw [ixT f p hf r (n + 1), Nat.add_assoc, Nat.add_comm 1]
  simp
theorem anyT (f : TTopic -> Option Bool) (p : TTopic -> Bool) (hf : ∀ x, f x = some (p x)) (l : List TTopic) : zc1 l f = some (l.any p) := by
 unfold zc1 zd4
 rw [ixT f p hf]
 cases h : l.any p
 simp
 simp
def ROk (r : List Int) : Prop := (r.length : Int) = 8 /\ ∀ x ∈ r, 0 <= x /\ x <= 1073741824
def COk (c : List (List Int)) : Prop := (c.length : Int) = 4 /\ ∀ r ∈ c, ROk r
theorem cc1 (x : Int) : zfh x = some (decide (x < 0) || decide (x > 1073741824)) := rfl
theorem cc2 (r : List Int) : zek r = some (decide (¬ ROk r)) := by
 unfold zek
 rw [anyI _ _ cc1]
 by_cases h : (r.length : Int) = 8
 rw [if_pos (by simpa using h)]
 simp only [za1, h, bne_self_eq_false, Bool.false_or]
 congr 1
 rw [Bool.eq_iff_iff]
 simp only [List.any_eq_true, zas, decide_eq_true_eq, ROk, h, true_and]
 constructor
 rintro ⟨x, hx, hc⟩ hall
 have := hall x hx; omega
 intro hn
 apply Classical.byContradiction
 intro hno
 exact hn fun x hx => Classical.byContradiction fun hh => hno ⟨x, hx, by omega⟩
 rw [if_neg (by simpa using h)]
 simp only [za1]
 congr 1
 have : ¬ ROk r := fun hh => h hh.1
 simp only [this, not_false_eq_true, decide_true]
 simp [h]
theorem ya4g (c : List (List Int)) : zfi c = some (if COk c then 0 else 8) := by
 unfold zfi
 rw [anyL _ _ cc2]
 by_cases h : (c.length : Int) = 4
 rw [if_pos (by simpa using h)]
 simp only [za1, h, not_true_eq_false, false_or]
 by_cases ha : ∀ r ∈ c, ROk r
 have e : (c.any fun r => decide (¬ ROk r)) = false := by
  rw [List.any_eq_false]; intro r hr; simpa using ha r hr
 rw [e, if_neg (by simp), if_pos ⟨h, ha⟩]
 have e : (c.any fun r => decide (¬ ROk r)) = true := by
  rw [List.any_eq_true]
  apply Classical.byContradiction
  intro hno
  exact ha fun r hr => Classical.byContradiction fun hh => hno ⟨r, hr, by simpa using hh⟩
 rw [e, if_pos rfl, if_neg (fun hh => ha hh.2)]
 rw [if_neg (by simpa using h)]
 simp only [za1, h, not_false_eq_true, true_or, if_true]
 rw [if_neg (fun hh => h hh.1)]
theorem ya8a (c : List (List Int)) (t w : Int) : zgh c t w = some (if COk c then (if 0 <= t /\ t < 4 /\ 0 <= w /\ w < 8 then 0 else 2) else 8) := by
 unfold zgh
 rw [ya4g]
 simp only [za1]
 by_cases h : COk c
 rw [if_pos h, if_neg (by simp), if_pos h]
 by_cases hb : 0 <= t /\ t < 4 /\ 0 <= w /\ w < 8
 rw [if_neg (by omega), if_pos hb]
 rw [if_pos (by omega), if_neg hb]
 rw [if_neg h, if_pos (by decide), if_neg h]
theorem ctl : ∀ (c l : List (List Int)), (∀ r ∈ c, (r.length : Int) = 8) -> l.length + c.length < 1000000 -> zca c l = some (l ++ c)
 | [], l, _, _ => by rw [zer, zag]
 | y :: r, l, h, hl => by
  simp only [za5] at hl
  have := h y (List.mem_cons_self ..)
  rw [zes, if_pos (by omega), if_pos (by simp only [za5, zac]; omega), ctl r (l ++ [y]) (fun z hz => h z (zaj _ hz)) (by simp only [zae, za5, zac]; omega)]
  simp
theorem ya88 {c : List (List Int)} (h : COk c) : zdn c = some c := by
 unfold zdn
 rw [ctl c [] (fun r hr => (h.2 r hr).1) (by have := h.1; simp only [zac]; omega)]
 rfl
theorem zkb {α : Type} (d : α) : ∀ (l : List α) (i : Nat), i < l.length -> l.getD i d ∈ l
 | [], _, h => by simp at h
 | y :: r, 0, _ => by simp
 | y :: r, i + 1, h => by
  rw [List.getD_cons_succ]
  exact zaj _ (zkb d r i (Nat.lt_of_succ_lt_succ h))
theorem zpe {α : Type} {l : List α} {i : Nat} {a x : α} (h : x ∈ l.set i a) : x = a \/ x ∈ l := by
 induction l generalizing i with
 | nil => simp at h
 | cons y r ih =>
  cases i with
  | zero =>
   rw [List.set_cons_zero] at h
   rcases List.mem_cons.1 h with e | e
   exact .inl e
   exact .inr (zaj _ e)
  | succ i =>
   rw [List.set_cons_succ] at h
   rcases List.mem_cons.1 h with e | e
   exact .inr (by rw [e]; exact List.mem_cons_self ..)
   rcases ih e with e | e
   exact .inl e
   exact .inr (zaj _ e)
theorem zn0 {α : Type} (d a : α) : ∀ (l : List α) (i j : Nat), i < l.length -> (l.set i a).getD j d = if j = i then a else l.getD j d
 | [], _, _, h => by simp at h
 | y :: r, 0, 0, _ => by simp
 | y :: r, 0, j + 1, _ => by simp
 | y :: r, i + 1, 0, _ => by simp
 | y :: r, i + 1, j + 1, h => by
  simp only [List.set_cons_succ, List.getD_cons_succ, Nat.add_right_cancel_iff]
  exact zn0 d a r i j (by simpa using h)
def setC (c : List (List Int)) (t w n : Int) : List (List Int) := c.set t.toNat ((c.getD t.toNat default).set w.toNat (max ((c.getD t.toNat default).getD w.toNat default) n))
theorem COk.set {c : List (List Int)} (h : COk c) {t w n : Int} (ht : 0 <= t /\ t < 4) (hw : 0 <= w /\ w < 8) (hn : 0 <= n /\ n <= 1073741824) : COk (setC c t w n) := by
 have hl := h.1
 have hr := h.2 _ (zkb default c t.toNat (by omega))
 have hx := hr.2 _ (zkb default (c.getD t.toNat default) w.toNat (by have := hr.1; omega))
 refine ⟨by unfold setC; rw [List.length_set]; exact hl, fun r hm => ?_⟩
 rcases zpe hm with rfl | hm
 refine ⟨by rw [List.length_set]; exact hr.1, fun x hxm => ?_⟩
 rcases zpe hxm with rfl | hxm
 omega
 exact hr.2 x hxm
 exact h.2 r hm
theorem ya5q (c : List (List Int)) (t w n : Int) : ∃ r, zhp c t w n = some r /\ (r.2 = 0 -> COk c /\ (0 <= t /\ t < 4) /\ (0 <= w /\ w < 8) /\ (0 <= n /\ n <= 1073741824) /\ r = (setC c t w n, 0)) /\ (r.2 ≠ 0 -> r.1 = []) /\
  (COk c -> 0 <= t /\ t < 4 -> 0 <= w /\ w < 8 -> 0 <= n /\ n <= 1073741824 -> r.2 = 0) := by
 unfold zhp
 rw [ya8a]
 simp only [za1]
 by_cases h : COk c
 rw [if_pos h]
 by_cases hb : 0 <= t /\ t < 4 /\ 0 <= w /\ w < 8
 rw [if_pos hb, if_neg (by simp)]
 by_cases hn : n < 0 \/ n > 1073741824
 rw [if_pos hn]
 exact ⟨_, rfl, fun h => absurd h (by decide), fun _ => rfl, fun _ _ _ k => absurd hn (by omega)⟩
 rw [if_neg hn, ya88 h]
 simp only [za1]
 have hl := h.1
 have hr := (h.2 _ (zkb default c t.toNat (by omega))).1
 rw [if_pos (by omega)]
 exact ⟨_, rfl, fun _ => ⟨h, by omega, by omega, by omega, rfl⟩, fun h => absurd rfl h, fun _ _ _ _ => rfl⟩
 rw [if_neg hb, if_pos (by decide)]
 exact ⟨_, rfl, fun h => absurd h (by decide), fun _ => rfl, fun _ a b _ => absurd ⟨a.1, a.2, b.1, b.2⟩ hb⟩
 rw [if_neg h, if_pos (by decide)]
 exact ⟨_, rfl, fun h => absurd h (by decide), fun _ => rfl, fun h' => absurd h' h⟩
theorem zyg (l : List Int) (hl : l.length < 1000000) : ∀ (fu k : Nat) (n2 : Int), l.length - k < fu -> k <= l.length -> ∃ v, zbr l fu n2 (k : Int) = some v /\ ∀ N, v <= N ↔ n2 <= N /\ ∀ x ∈ l.drop k, x <= N
 | 0, k, n2, h, _ => by omega
 | fu + 1, k, n2, h, hk => by
  simp only [zbr]
  by_cases hc : (k : Int) < (l.length : Int)
  rw [if_pos hc, if_pos (by omega), wrk _ (by omega)]
  have hk' : k < l.length := by omega
  obtain ⟨v, e, hv⟩ := zyg l hl fu (k + 1) (max n2 (l.getD ((k : Int)).toNat default)) (by omega) (by omega)
  refine ⟨v, by simpa using e, fun N => ?_⟩
  rw [hv, za7 hk']
  have hg : l.getD ((k : Int)).toNat default = l[k] := by simp [List.getD_eq_getElem?_getD, hk']
  rw [hg]
  simp only [List.mem_cons, forall_eq_or_imp]
  constructor
  rintro ⟨a, b⟩; exact ⟨by omega, by omega, b⟩
  rintro ⟨a, b, c⟩; exact ⟨by omega, c⟩
  rw [if_neg hc]
  have : k = l.length := by omega
  subst this
  exact ⟨n2, rfl, fun N => by simp⟩
theorem ya7t (l : List Int) (h0 : l ≠ []) (hl : l.length < 1000000) : ∃ v, zed l = some v /\ ∀ N, v <= N ↔ ∀ x ∈ l, x <= N := by
 unfold zed
 have hpos : 0 < l.length := List.length_pos_iff.2 h0
 rw [if_neg (by omega), if_pos hpos]
 obtain ⟨v, e, hv⟩ := zyg l hl (l.length + 1) 1 (l.getD 0 default) (by omega) (by omega)
 have e' : zbr l (l.length + 1) (l.getD 0 default) 1 = some v := e
 rw [e']
 refine ⟨v, rfl, fun N => ?_⟩
 rw [hv]
 match l, h0 with
 | y :: r, _ => simp
structure StOk (s : TStream) : Prop where
 tl : (s.Topics.length : Int) = 4
 t : ∀ t ∈ s.Topics, TOk t
 c : COk s.Commits
 n : ∀ i : Nat, i < 4 -> ∀ x ∈ s.Commits.getD i default, x <= (s.Topics.getD i default).Next
theorem sc1 (t : TTopic) : zev t = some (decide (¬ TOk t)) := by
 unfold zev
 rw [zxz]
 by_cases h : TOk t
 simp [h]
 simp [h]
theorem ya7a (s : TStream) : ∀ (l : List (List Int)) (n : Nat), (∀ r ∈ l, ROk r) -> n + l.length <= s.Topics.length ->
  zcf s l n = some (if ∀ i : Nat, i < l.length -> ∀ x ∈ l.getD i default, x <= (s.Topics.getD (n + i) default).Next then .inr () else .inl 8)
 | [], n, _, _ => by simp [zcf]
 | y :: r, n, h, hl => by
  simp only [za5] at hl
  have hy := (h y (List.mem_cons_self ..)).1
  obtain ⟨v, e, hv⟩ := ya7t y (by rintro rfl; simp at hy) (by omega)
  simp only [zcf, e, za1]
  rw [if_pos (by omega)]
  by_cases hc : v > (s.Topics.getD n default).Next
  rw [if_pos hc, if_neg]
  intro hall
  have h0 := hall 0 (by simp)
  simp only [List.getD_cons_zero, Nat.add_zero] at h0
  have := (hv _).2 h0
  omega
  rw [if_neg hc, ya7a s r (n + 1) (fun z hz => h z (zaj _ hz)) (by omega)]
  have h0 := (hv (s.Topics.getD n default).Next).1 (by omega)
  have e : (∀ i : Nat, i < r.length -> ∀ x ∈ r.getD i default, x <= (s.Topics.getD (n + 1 + i) default).Next) ↔ (∀ i : Nat, i < (y :: r).length -> ∀ x ∈ (y :: r).getD i default, x <= (s.Topics.getD (n + i) default).Next) := by
   constructor
   intro hh i hi
   cases i with
   | zero => simpa using h0
   | succ i =>
    have := hh i (by simpa using hi)
    rw [List.getD_cons_succ]
    intro x hx
    have := this x hx
    rwa [show n + (i + 1) = n + 1 + i by omega]
   intro hh i hi x hx
   have := hh (i + 1) (by simpa using hi) x (by rw [List.getD_cons_succ]; exact hx)
   rwa [show n + (i + 1) = n + 1 + i by omega] at this
  by_cases hh : ∀ i : Nat, i < r.length -> ∀ x ∈ r.getD i default, x <= (s.Topics.getD (n + 1 + i) default).Next
  rw [if_pos hh, if_pos (e.1 hh)]
  rw [if_neg hh, if_neg (fun k => hh (e.2 k))]
theorem ya46 (s : TStream) : zg5 s = some (if StOk s then 0 else 8) := by
 unfold zg5
 rw [anyT _ _ sc1, ya4g]
 by_cases h : (s.Topics.length : Int) = 4
 simp only [h, not_true_eq_false, not_false_eq_true, if_true, za1, false_or]
 by_cases ht : ∀ t ∈ s.Topics, TOk t
 have e : (s.Topics.any fun t => decide (¬ TOk t)) = false := by
  rw [List.any_eq_false]; intro r hr; simpa using ht r hr
 rw [e]
 simp only [zan, not_false_eq_true, if_true, za1, false_or]
 by_cases hc : COk s.Commits
 rw [if_pos hc, if_neg (by simp)]
 have hcl := hc.1
 rw [ya7a s s.Commits 0 hc.2 (by omega)]
 simp only [za1, Nat.zero_add]
 by_cases hn : ∀ i : Nat, i < s.Commits.length -> ∀ x ∈ s.Commits.getD i default, x <= (s.Topics.getD i default).Next
 rw [if_pos hn, if_pos ⟨h, ht, hc, fun i hi => hn i (by omega)⟩]
 rw [if_neg hn, if_neg (fun hh => hn fun i hi => hh.n i (by omega))]
 rw [if_neg hc, if_pos (by decide), if_neg (fun hh => hc hh.c)]
 have e : (s.Topics.any fun t => decide (¬ TOk t)) = true := by
  rw [List.any_eq_true]
  apply Classical.byContradiction
  intro hno
  exact ht fun r hr => Classical.byContradiction fun hh => hno ⟨r, hr, by simpa using hh⟩
 rw [e]
 simp only [not_true_eq_false, if_false, za1, true_or, if_true]
 rw [if_neg (fun hh => ht hh.t)]
 simp only [h, not_false_eq_true, not_true_eq_false, if_false, za1, true_or, if_true]
 rw [if_neg (fun hh => h hh.tl)]
theorem zv7 (s : TStream) (t : Int) : zf7 s t = some (if StOk s then (if 0 <= t /\ t < 4 then 0 else 2) else 8) := by
 unfold zf7
 rw [ya46]
 simp only [za1]
 by_cases h : StOk s
 rw [if_pos h, if_neg (by simp), if_pos h]
 by_cases hb : 0 <= t /\ t < 4
 rw [if_neg (by omega), if_pos hb]
 rw [if_pos (by omega), if_neg hb]
 rw [if_neg h, if_pos (by decide), if_neg h]
theorem ya8f {t : TTopic} (h : TOk t) : zco t = some t := by
 have := h.len
 simp only [zco, zbh]
 rw [if_pos (by omega)]
 rfl
theorem stl : ∀ (c l : List TTopic), (∀ r ∈ c, TOk r) -> l.length + c.length < 1000000 -> zdd c l = some (l ++ c)
 | [], l, _, _ => by rw [zik, zag]
 | y :: r, l, h, hl => by
  simp only [za5] at hl
  rw [zil, ya8f (h y (List.mem_cons_self ..)), za1, if_pos (by simp only [za5, zac]; omega), stl r (l ++ [y]) (fun z hz => h z (zaj _ hz)) (by simp only [zae, za5, zac]; omega)]
  simp
theorem ya2x {s : TStream} (h : StOk s) : zez s = some s := by
 unfold zez
 rw [ya88 h.c]
 simp only [za1]
 rw [stl s.Topics [] h.t (by have := h.tl; simp only [zac]; omega)]
 rfl
theorem zzg {s : TStream} (h : StOk s) {i : Int} (hi : 0 <= i /\ i < 4) (t : TTopic) : zfs s i t = some ⟨s.Topics.set i.toNat t, s.Commits⟩ := by
 unfold zfs
 rw [ya2x h]
 simp only [za1]
 rw [if_pos (by have := h.tl; omega)]
theorem StOk.with {s : TStream} (h : StOk s) {i : Int} (hi : 0 <= i /\ i < 4) {t : TTopic} (ht : TOk t) (hn : (s.Topics.getD i.toNat default).Next <= t.Next) : StOk ⟨s.Topics.set i.toNat t, s.Commits⟩ := by
 have tl := h.tl
 refine ⟨by show ((s.Topics.set i.toNat t).length : Int) = 4; rw [List.length_set]; exact tl, fun z hz => ?_, h.c, fun j hj x hx => ?_⟩
 rcases zpe hz with rfl | hz
 exact ht
 exact h.t z hz
 have := h.n j hj x hx
 show x <= ((s.Topics.set i.toNat t).getD j default).Next
 rw [zn0 _ _ _ _ _ (by omega)]
 split
 rename_i e; subst e; omega
 exact this
def zSt : TStream := ⟨[], []⟩
theorem ya49 (s : TStream) (m : TMessage) : ∃ r, zf0 s m = some r /\ (r.2.2 = 0 -> StOk s /\ (0 <= m.Topic /\ m.Topic < 4) /\ StOk r.1 /\ r = (⟨s.Topics.set m.Topic.toNat (addT (s.Topics.getD m.Topic.toNat default) m.Id m.Key m.Body), s.Commits⟩, (s.Topics.getD m.Topic.toNat default).Next, 0)) /\ (r.2.2 ≠ 0 -> r.1 = zSt /\ r.2.1 = 0) := by
 unfold zf0
 rw [zv7]
 simp only [za1]
 by_cases h : StOk s
 rw [if_pos h]
 have tl := h.tl
 by_cases hb : 0 <= m.Topic /\ m.Topic < 4
 rw [if_pos hb, if_neg (by simp), if_pos (by omega)]
 obtain ⟨r, e, h1, h2, _⟩ := ya4i (s.Topics.getD m.Topic.toNat default) m.Id m.Key m.Body
 rw [e]
 simp only [za1]
 by_cases h0 : r.2.2 = 0
 rw [if_neg (by omega)]
 obtain ⟨k1, k2, k3, k4, k5⟩ := h1 h0
 rw [zzg h hb, k5]
 refine ⟨_, rfl, fun _ => ⟨h, hb, h.with hb (k1.add k2 k3 k4) ?_, rfl⟩, fun h => absurd rfl h⟩
 show _ <= (s.Topics.getD m.Topic.toNat default).Next + 1
 omega
 rw [if_pos h0]
 exact ⟨_, rfl, fun h => absurd h h0, fun _ => ⟨rfl, rfl⟩⟩
 rw [if_neg hb, if_pos (by decide)]
 exact ⟨_, rfl, fun h => absurd h (by decide), fun _ => ⟨rfl, rfl⟩⟩
 rw [if_neg h, if_pos (by decide)]
 exact ⟨_, rfl, fun h => absurd h (by decide), fun _ => ⟨rfl, rfl⟩⟩
theorem ya29 (s : TStream) (c : TCommand) (h : StOk s) (hb : 0 <= c.Topic /\ c.Topic < 4) : ∃ r, zem s c = some r /\ (r.2 = 0 -> StOk r.1) /\ (r.2 ≠ 0 -> r.1 = zSt) := by
 unfold zem
 have tl := h.tl
 by_cases h1 : ((c.Who < 0 \/ c.Who >= 8) \/ c.N < 0) \/ c.N > 1073741824
 rw [if_pos h1]
 exact ⟨_, rfl, fun h => absurd h (by decide), fun _ => rfl⟩
 rw [if_neg h1, if_pos (by omega)]
 by_cases h2 : c.N > (s.Topics.getD c.Topic.toNat default).Next
 rw [if_pos h2]
 exact ⟨_, rfl, fun h => absurd h (by decide), fun _ => rfl⟩
 rw [if_neg h2, ya2x h]
 simp only [za1]
 obtain ⟨r, e, k1, k2, k3⟩ := ya5q s.Commits c.Topic c.Who c.N
 rw [e]
 obtain ⟨-, -, -, -, k5⟩ := k1 (k3 h.c hb (by omega) (by omega))
 rw [k5]
 refine ⟨_, rfl, fun _ => ⟨tl, h.t, h.c.set hb (by omega) (by omega), fun i hi x hx => ?_⟩, fun h => absurd rfl h⟩
 have hcl := h.c.1
 have hr := h.c.2 _ (zkb default s.Commits c.Topic.toNat (by omega))
 have hx' : x ∈ (s.Commits.set c.Topic.toNat ((s.Commits.getD c.Topic.toNat default).set c.Who.toNat (max ((s.Commits.getD c.Topic.toNat default).getD c.Who.toNat default) c.N))).getD i default := hx
 rw [zn0 _ _ _ _ _ (by omega)] at hx'
 show x <= (s.Topics.getD i default).Next
 split at hx'
 rename_i ei
 subst ei
 rcases zpe hx' with rfl | hx'
 have := h.n c.Topic.toNat hi _ (zkb default (s.Commits.getD c.Topic.toNat default) c.Who.toNat (by have := hr.1; omega))
 omega
 exact h.n _ hi x hx'
 exact h.n _ hi x hx'
theorem ya8x (s : TStream) (c : TCommand) : ∃ r, zh8 s c = some r /\ (r.2 = 0 -> StOk r.1) /\ (r.2 ≠ 0 -> r.1 = zSt) := by
 unfold zh8
 rw [zv7]
 simp only [za1]
 by_cases h : StOk s
 rw [if_pos h]
 have tl := h.tl
 by_cases hb : 0 <= c.Topic /\ c.Topic < 4
 rw [if_pos hb, if_neg (by simp)]
 by_cases k4 : c.Kind = 4
 rw [if_pos k4]
 obtain ⟨r, e, h1, h2⟩ := ya29 s c h hb
 rw [e]
 exact ⟨_, rfl, h1, h2⟩
 rw [if_neg k4]
 by_cases k5 : c.Kind = 5
 rw [if_pos k5, if_pos (by omega)]
 obtain ⟨r, e, h1, h2, _⟩ := ya0n (s.Topics.getD c.Topic.toNat default) c.N
 rw [e]
 simp only [za1]
 by_cases h0 : r.2 = 0
 rw [if_neg (by omega)]
 obtain ⟨j1, j2, j3, j4⟩ := h1 h0
 rw [zzg h hb, j4]
 exact ⟨_, rfl, fun _ => h.with hb (j1.trim j2) (Int.le_refl _), fun h => absurd rfl h⟩
 rw [if_pos h0]
 exact ⟨_, rfl, fun h => absurd h h0, fun _ => rfl⟩
 rw [if_neg k5]
 by_cases k6 : c.Kind = 6
 rw [if_pos k6, if_pos (by omega)]
 obtain ⟨r, e, h1, h2, _⟩ := ya27 (s.Topics.getD c.Topic.toNat default) c.N
 rw [e]
 simp only [za1]
 by_cases h0 : r.2 = 0
 rw [if_neg (by omega)]
 obtain ⟨j1, j2, j3, j4⟩ := h1 h0
 rw [zzg h hb, j4]
 exact ⟨_, rfl, fun _ => h.with hb (j1.comp j2) (Int.le_refl _), fun h => absurd rfl h⟩
 rw [if_pos h0]
 exact ⟨_, rfl, fun h => absurd h h0, fun _ => rfl⟩
 rw [if_neg k6]
 exact ⟨_, rfl, fun h => absurd h (by decide), fun _ => rfl⟩
 rw [if_neg hb, if_pos (by decide)]
 exact ⟨_, rfl, fun h => absurd h (by decide), fun _ => rfl⟩
 rw [if_neg h, if_pos (by decide)]
 exact ⟨_, rfl, fun h => absurd h (by decide), fun _ => rfl⟩
structure HOk (h : THome) : Prop where
 v : V h.Skeen
 s : StOk h.Stream
 l : (h.Last.length : Int) = 6
 x : ∀ x ∈ h.Last, 0 <= x /\ x <= 1048576
def zHo : THome := ⟨⟨0, [], []⟩, ⟨[], []⟩, []⟩
theorem gc1 (x : Int) : zgg x = some (decide (x < 0) || decide (x > 1048576)) := rfl
theorem ya81 (h : THome) : zgn h = some (if HOk h then 0 else 8) := by
 unfold zgn
 obtain ⟨e, he, hi⟩ := zy0 h.Skeen
 rw [he, ya46, anyI _ _ gc1]
 simp only [za1]
 by_cases hv : e = 0
 simp only [hv, not_true_eq_false, not_false_eq_true, if_true, za1, false_or]
 by_cases hs : StOk h.Stream
 simp only [hs, if_true, not_true_eq_false, false_or]
 by_cases hl : (h.Last.length : Int) = 6
 simp only [hl, not_true_eq_false, not_false_eq_true, if_true, za1, false_or]
 by_cases hx : ∀ x ∈ h.Last, 0 <= x /\ x <= 1048576
 have ea : (h.Last.any fun x => decide (x < 0) || decide (x > 1048576)) = false := by
  rw [List.any_eq_false]; intro x hm; have := hx x hm; simp; omega
 rw [ea, if_neg (by decide), if_pos ⟨hi.1 hv, hs, hl, hx⟩]
 have ea : (h.Last.any fun x => decide (x < 0) || decide (x > 1048576)) = true := by
  rw [List.any_eq_true]
  apply Classical.byContradiction
  intro hno
  exact hx fun x hm => Classical.byContradiction fun hh => hno ⟨x, hm, by simp; omega⟩
 rw [ea, if_pos rfl, if_neg (fun hh => hx hh.x)]
 simp only [hl, not_true_eq_false, not_false_eq_true, if_false, za1, true_or, if_true]
 rw [if_neg (fun hh => hl hh.l)]
 simp only [hs, if_false]
 rw [if_neg (by simp)]
 simp only [za1]
 rw [if_pos (by simp), if_neg (fun hh => hs hh.s)]
 simp only [hv, not_false_eq_true, not_true_eq_false, if_false, za1, true_or, if_true]
 rw [if_neg (fun hh => hv (hi.2 hh.v))]
theorem ya8r {h : THome} (k : HOk h) : zge h = some h := by
 have hlw := k.v.lw; have hld := k.v.ld
 have htw : zdu h.Skeen = some h.Skeen := zwi h.Skeen (by omega) (by omega) (fun w hw => by have := (k.v.j.w.1 w hw).1.groups; omega)
 unfold zge
 rw [htw, ya2x k.s, zsh _ (by have := k.l; omega)]
 rfl
theorem ya2d (c : TCommand) (h : zb6 c = some 0) (hk : 4 <= c.Kind) : IdOk c.Id := by
 by_cases hi : IdOk c.Id
 exact hi
 exfalso
 rw [zb6, zfj, zz4] at h
 have k0 : ¬ c.Kind = 0 := by omega
 have k1 : ¬ c.Kind = 1 := by omega
 have k2 : ¬ c.Kind = 2 := by omega
 have k3 : ¬ c.Kind = 3 := by omega
 simp only [hi, k0, k1, k2, k3, decide_false, zan, if_false, false_and, za1, Bool.false_and] at h
 by_cases k4 : c.Kind = 4
 simp [k4] at h
 by_cases k5 : c.Kind = 5
 simp [k5] at h
 by_cases k6 : c.Kind = 6
 simp [k6] at h
 simp [k4, k5, k6] at h
theorem of_eq (x : Int) (h : IdOk x) : zks x = some (x / 1048576, x % 1048576, 0) /\ 0 <= x / 1048576 /\ x / 1048576 < 6 /\ 0 <= x % 1048576 /\ x % 1048576 < 1048576 := by
 unfold IdOk at h
 have a1 : x.tdiv 1048576 = x / 1048576 := Int.tdiv_eq_ediv_of_nonneg h.1
 have a2 : x.tmod 1048576 = x % 1048576 := Int.tmod_eq_emod_of_nonneg h.1
 unfold zks
 rw [if_neg (by omega), a1, a2, wrk _ (by omega)]
 exact ⟨rfl, by omega, by omega, by omega, by omega⟩
def at6 (h : THome) (x : Int) : Int := h.Last.getD (x / 1048576).toNat default
theorem HOk.put {h : THome} (k : HOk h) (s : TStream) (hs : StOk s) (i : Nat) (hi : i < 6) (v : Int) (hv : 0 <= v /\ v <= 1048576) : HOk ⟨h.Skeen, s, h.Last.set i v⟩ := by
 refine ⟨k.v, hs, by show ((h.Last.set i v).length : Int) = 6; rw [List.length_set]; exact k.l, fun x hx => ?_⟩
 rcases zpe hx with rfl | hx
 exact hv
 exact k.x x hx
theorem ya4b (h : THome) (k : HOk h) (c : TCommand) (hi : IdOk c.Id) : ∃ h', zc9 ⟨h⟩ c = some ⟨h'⟩ /\ HOk h' /\ at6 h' c.Id > c.Id % 1048576 /\ (at6 h c.Id > c.Id % 1048576 -> h' = h) := by
 obtain ⟨e, o1, o2, o3, o4⟩ := of_eq c.Id hi
 have hl := k.l
 unfold zc9
 rw [e]
 simp only [za1]
 rw [if_pos (by omega)]
 by_cases hc : h.Last.getD (c.Id / 1048576).toNat default > c.Id % 1048576
 rw [if_pos hc]
 exact ⟨h, rfl, k, hc, fun _ => rfl⟩
 rw [if_neg hc, if_pos (by omega)]
 obtain ⟨r, er, h1, h2⟩ := ya8x h.Stream c
 rw [er, wrk _ (by omega)]
 simp only [za1]
 have hg : ∀ s : TStream, at6 ⟨h.Skeen, s, h.Last.set (c.Id / 1048576).toNat (c.Id % 1048576 + 1)⟩ c.Id > c.Id % 1048576 := by
  intro s
  show (h.Last.set (c.Id / 1048576).toNat (c.Id % 1048576 + 1)).getD (c.Id / 1048576).toNat default > _
  rw [zn0 _ _ _ _ _ (by omega), if_pos rfl]
  omega
 by_cases h0 : r.2 = 0
 rw [if_pos h0]
 exact ⟨_, rfl, k.put _ (h1 h0) _ (by omega) _ (by omega), hg _, fun hh => absurd hh hc⟩
 rw [if_neg h0]
 exact ⟨_, rfl, k.put _ k.s _ (by omega) _ (by omega), hg _, fun hh => absurd hh hc⟩
end Go.Proofs
namespace Go.Proofs
open Go.Tm
set_option linter.unusedSimpArgs false
theorem ya57 (n : Int) : ∃ b, zoe n = some b /\ (b = true -> 0 <= n /\ n <= 1099511627776) := by
 rw [zoe]
 refine ⟨_, rfl, fun h => ?_⟩
 simp at h
 omega
structure GetOk (l : List Int) (r : Int × Int × Int) : Prop where
 s0 : 0 <= r.2.1
 s1 : r.2.1 <= l.length
 n0 : r.2.2 = 0 -> 0 <= r.1 /\ r.1 <= 1099511627776
theorem ya3l : ∀ (l : List Int) (k : Nat) (n : Int), (∃ u, ze6 l k n = some (.inr u)) \/ ∃ a b, ze6 l k n = some (.inl (a, b, 0)) /\ 0 <= b /\ b <= k + l.length /\ 0 <= a /\ a <= 1099511627776 := by
 intro l
 induction l with
 | nil => intro k n; exact .inl ⟨(), rfl⟩
 | cons y l ih =>
  intro k n
  rw [ze6]
  by_cases h5 : (k : Int) > 5
  rw [if_pos h5]; exact .inl ⟨(), rfl⟩
  rw [if_neg h5, if_pos (by rw [wrk _ (by omega)]; omega)]
  by_cases h7 : y > 127
  rw [if_pos h7]
  rcases ih (k + 1) _ with h | ⟨a, b, h, h1, h2, h3⟩
  exact .inl h
  exact .inr ⟨a, b, h, h1, by simp only [za5]; omega, h3⟩
  rw [if_neg h7]
  by_cases h0 : y = 0 /\ (k : Int) > 0
  rw [if_neg (fun h => h h0)]
  simp only [za1]
  rw [if_pos (.inl h0)]
  exact .inl ⟨(), rfl⟩
  rw [if_pos h0]
  obtain ⟨b, hb, hb2⟩ := ya57 (bitw .or .i64 n (shw true .i64 (wr .i64 (bitw .and .u8 y 127)) (wr .i64 (7 * (k : Int)))))
  rw [hb]
  simp only [za1]
  by_cases hbt : b = true
  rw [if_neg (by rintro (h | h); exact h0 h; exact h hbt), wrk ((k : Int) + 1) (by omega)]
  exact .inr ⟨_, _, rfl, by omega, by simp only [za5]; omega, hb2 hbt⟩
  rw [if_pos (.inr hbt)]
  exact .inl ⟨(), rfl⟩
theorem zuh (l : List Int) : ∃ r, zin l = some r /\ GetOk l r := by
 rw [zin]
 rcases ya3l l 0 0 with ⟨u, h⟩ | ⟨a, b, h, h1, h2, h3⟩
 rw [h]; exact ⟨_, rfl, by show (0 : Int) <= 0; omega, by show (0 : Int) <= _; omega, by intro h; cases h⟩
 rw [h]; exact ⟨_, rfl, h1, by show b <= _; omega, fun _ => h3⟩
theorem zx6 (l : List Int) (hl : l.length <= 1000000) : ∃ r, zhk l = some r /\ 0 <= r.2.1 /\ r.2.1 <= l.length := by
 obtain ⟨v, hv, ho⟩ := zuh l
 have h1 := ho.s0
 have h2 := ho.s1
 rw [zhk, hv]
 simp only [za1]
 by_cases hc : (¬ v.2.2 = 0 \/ v.1 > 4096) \/ v.1 > wr .i64 ((l.length : Int) - v.2.1)
 rw [if_pos hc]; exact ⟨_, rfl, by show (0 : Int) <= 0; omega, by show (0 : Int) <= _; omega⟩
 rw [if_neg hc]
 rw [wrk _ (by omega)] at hc
 have h3 := ho.n0 (by omega)
 rw [wrk _ (by omega), if_pos (by omega)]
 exact ⟨_, rfl, by show (0 : Int) <= v.2.1 + v.1; omega, by show v.2.1 + v.1 <= _; omega⟩
theorem zvu (l : List Int) (hl : l.length <= 1000000) (v : Int × Int × Int) : ∀ (fu : Nat) (acc : List Int) (at' k : Int), (v.1 - k).toNat < fu -> 0 <= at' -> at' <= l.length -> 0 <= k -> v.1 <= 4096 -> (acc.length : Int) <= k ->
  (∃ e, zcs l v fu acc at' k = some (.inl ([], 0, e))) \/ ∃ acc' at2, zcs l v fu acc at' k = some (.inr (acc', at2)) /\ 0 <= at2 /\ at2 <= l.length := by
 intro fu
 induction fu with
 | zero => intro acc at' k h; omega
 | succ fu ih =>
  intro acc at' k h h0 h1 hk hv ha
  rw [zcs]
  by_cases hlt : k < v.1
  obtain ⟨r, hr, ho⟩ := zuh (l.drop at'.toNat)
  have q1 := ho.s0
  have q2 := ho.s1
  simp only [List.length_drop] at q2
  rw [if_pos hlt, if_pos ⟨h0, h1⟩, hr]
  simp only [za1]
  by_cases he : ¬ r.2.2 = 0
  rw [if_pos he]; exact .inl ⟨_, rfl⟩
  rw [if_neg he, if_pos (by simp; omega), wrk (at' + r.2.1) (by omega), wrk (k + 1) (by omega)]
  exact ih _ _ _ (by omega) (by omega) (by omega) (by omega) hv (by simp; omega)
  rw [if_neg hlt]; exact .inr ⟨_, _, rfl, h0, h1⟩
theorem zx7 (l : List Int) (hl : l.length <= 1000000) (m : Int) : ∃ r, zhl l m = some r /\ 0 <= r.2.1 /\ r.2.1 <= l.length := by
 rw [zhl]
 by_cases hm : m < 0 \/ m > 4096
 rw [if_pos hm]; exact ⟨_, rfl, by show (0 : Int) <= 0; omega, by show (0 : Int) <= _; omega⟩
 rw [if_neg hm]
 obtain ⟨v, hv, ho⟩ := zuh l
 rw [hv]
 simp only [za1]
 by_cases hc : ¬ v.2.2 = 0 \/ v.1 > m
 rw [if_pos hc]; exact ⟨_, rfl, by show (0 : Int) <= 0; omega, by show (0 : Int) <= _; omega⟩
 rw [if_neg hc]
 rcases zvu l hl v (v.1.toNat + 1) [] v.2.1 0 (by omega) ho.s0 ho.s1 (by omega) (by omega) (by simp) with ⟨e, h⟩ | ⟨a, b, h, h1, h2⟩
 rw [h]; exact ⟨_, rfl, by show (0 : Int) <= 0; omega, by show (0 : Int) <= _; omega⟩
 rw [h]; exact ⟨_, rfl, h1, h2⟩
theorem ztw (r : Tcommand_reader) (n e : Int) (h : 0 <= n) : ∃ r', zct r n e = some r' /\ r'.fB.length <= r.fB.length := by
 rw [zct, if_pos (by omega)]
 exact ⟨_, rfl, by simp⟩
theorem zg4 (r : Tcommand_reader) : ∃ x, zay r = some x /\ x.2.fB.length <= r.fB.length := by
 obtain ⟨v, hv, ho⟩ := zuh r.fB
 obtain ⟨r', h1, h2⟩ := ztw r v.2.1 v.2.2 ho.s0
 rw [zay, hv]
 simp only [za1, h1]
 exact ⟨_, rfl, h2⟩
theorem zxy (r : Tcommand_reader) (hl : r.fB.length <= 1000000) : ∃ x, zde r = some x /\ x.2.fB.length <= r.fB.length := by
 obtain ⟨v, hv, h0, _⟩ := zx6 r.fB hl
 obtain ⟨r', h1, h2⟩ := ztw r v.2.1 v.2.2 h0
 rw [zde, hv]
 simp only [za1, h1]
 exact ⟨_, rfl, h2⟩
theorem zyk (r : Tcommand_reader) (hl : r.fB.length <= 1000000) (m : Int) : ∃ x, zdf r m = some x /\ x.2.fB.length <= r.fB.length := by
 obtain ⟨v, hv, h0, _⟩ := zx7 r.fB hl m
 obtain ⟨r', h1, h2⟩ := ztw r v.2.1 v.2.2 h0
 rw [zdf, hv]
 simp only [za1, h1]
 exact ⟨_, rfl, h2⟩
theorem zxh (r : Tcommand_reader) (hl : r.fB.length <= 1000000) : ∃ x, zdg r = some x := by
 obtain ⟨v1, h1, l1⟩ := zg4 r
 rw [zdg, h1]
 simp only [za1]
 by_cases k1 : wr .u8 (min v1.1 255) = 1
 obtain ⟨v2, h2, l2⟩ := zg4 v1.2
 obtain ⟨v3, h3, l3⟩ := zyk v2.2 (by omega) 4
 obtain ⟨v4, h4, l4⟩ := zg4 v3.2
 obtain ⟨v5, h5, l5⟩ := zxy v4.2 (by omega)
 obtain ⟨v6, h6, l6⟩ := zxy v5.2 (by omega)
 simp only [k1, if_true, h2, h3, h4, h5, h6, za1]
 exact ⟨_, rfl⟩
 by_cases k2 : wr .u8 (min v1.1 255) = 2
 obtain ⟨v2, h2, l2⟩ := zg4 v1.2
 obtain ⟨v3, h3, l3⟩ := zg4 v2.2
 rw [if_neg k1, if_pos k2, h2]
 simp only [za1, h3]
 exact ⟨_, rfl⟩
 by_cases k3 : wr .u8 (min v1.1 255) = 3
 obtain ⟨v2, h2, l2⟩ := zyk v1.2 (by omega) 6
 rw [if_neg k1, if_neg k2, if_pos k3, h2]
 simp only [za1]
 exact ⟨_, rfl⟩
 rw [if_neg k1, if_neg k2, if_neg k3]
 obtain ⟨b2, hb2⟩ : ∃ b2, (if (wr .u8 (min v1.1 255)) = 4 then some ((wr .u8 (min v1.1 255)) == 4) else if (wr .u8 (min v1.1 255)) = 5 then some ((wr .u8 (min v1.1 255)) == 5) else some ((wr .u8 (min v1.1 255)) == 6)) = some b2 := by
  split
  exact ⟨_, rfl⟩
  split <;> exact ⟨_, rfl⟩
 rw [hb2]
 simp only [za1]
 by_cases hb : b2 = true
 rw [if_pos hb]
 obtain ⟨v2, h2, l2⟩ := zg4 v1.2
 obtain ⟨v3, h3, l3⟩ := zg4 v2.2
 simp only [h2, h3, za1]
 by_cases k4 : wr .u8 (min v1.1 255) = 4
 obtain ⟨v4, h4, l4⟩ := zg4 v3.2
 obtain ⟨v5, h5, l5⟩ := zg4 ⟨v4.2.fB, v4.2.fOk⟩
 rw [if_pos k4, h4]
 simp only [za1, h5]
 exact ⟨_, rfl⟩
 obtain ⟨v5, h5, l5⟩ := zg4 ⟨v3.2.fB, v3.2.fOk⟩
 rw [if_neg k4]
 simp only [za1, h5]
 exact ⟨_, rfl⟩
 rw [if_neg hb]
 exact ⟨_, rfl⟩
theorem zy6 (s : List UInt8) : ∃ r, zdo s = some r := by
 rw [zdo]
 by_cases h : (s.length : Int) > 1024
 rw [if_pos h]; exact ⟨_, rfl⟩
 rw [if_neg h]
 obtain ⟨x, hx⟩ := zxh ⟨zm9 s, true⟩ (by simp [zm9]; omega)
 rw [hx]
 simp only [za1]
 by_cases hc : (¬ (x.2.fOk = true)) \/ ((x.2.fB.length : Int) > 0)
 rw [if_neg (fun h => h hc)]
 simp only [za1]
 rw [if_pos (.inl hc)]
 exact ⟨_, rfl⟩
 rw [if_pos hc]
 obtain ⟨e, he, _⟩ := zxj x.1
 rw [he]
 simp only [za1]
 split <;> exact ⟨_, rfl⟩
def zop : List (List UInt8) -> Option (List TCommand)
 | [] => some []
 | s :: l => match zdo s with
  | some (c, e) => if e = 0 then (zop l).map (c :: ·) else none
  | none => none
theorem ya2b : ∀ (l : List (List UInt8)) (acc : List TCommand), acc.length + l.length < 1000000 -> zd3 l acc = some (match zop l with | some cs => .inr (acc ++ cs) | none => .inl ([], 8)) := by
 intro l
 induction l with
 | nil => intro acc _; simp [zi2, zop]
 | cons s l ih =>
  intro acc h
  simp only [za5] at h
  obtain ⟨⟨c, e⟩, hr⟩ := zy6 s
  rw [zi3, hr]
  simp only [za1, zop, hr]
  by_cases he : e = 0
  rw [if_neg (by simpa using he), if_pos (by simp; omega), ih _ (by simp; omega), if_pos he]
  cases zop l <;> simp
  rw [if_pos he, if_neg he]
theorem ya2c (l : List (List UInt8)) : zf8 l = some (if (l.length : Int) > 200 then (([], 4) : List TCommand × Int) else match zop l with | some cs => (cs, 0) | none => ([], 8)) := by
 rw [zf8]
 by_cases h : (l.length : Int) > 200
 rw [if_pos h, if_pos h]
 rw [if_neg h, if_neg h, ya2b l [] (by simp; omega)]
 cases zop l <;> rfl
theorem ya4x (s : List UInt8) (c : TCommand) (h : zdo s = some (c, 0)) : zb6 c = some 0 := by
 rw [zdo] at h
 by_cases h9 : (s.length : Int) > 1024
 rw [if_pos h9] at h; cases h
 rw [if_neg h9] at h
 obtain ⟨x, hx, h⟩ := za2 h
 obtain ⟨b, hb, h⟩ := za2 h
 split at h
 cases h
 rename_i hn
 obtain rfl : x.1 = c := by injection h with h; injection h
 split at hb
 rw [hb]
 exact congrArg some (Classical.byContradiction fun k => hn (.inr k))
 rename_i hc
 exact absurd (.inl (Classical.not_not.1 hc)) hn
theorem ya5t : ∀ (l : List (List UInt8)) (cs : List TCommand), zop l = some cs -> ∀ c ∈ cs, zb6 c = some 0 := by
 intro l
 induction l with
 | nil => intro cs h; obtain rfl := sj h; simp
 | cons s l ih =>
  intro cs h
  obtain ⟨⟨c, e⟩, hr⟩ := zy6 s
  simp only [zop, hr] at h
  split at h
  rename_i he
  subst he
  obtain ⟨ds, hd, rfl⟩ := Option.map_eq_some_iff.1 h
  intro d hm
  rcases List.mem_cons.1 hm with rfl | hm
  exact ya4x s _ hr
  exact ih ds hd d hm
  cases h
end Go.Proofs
namespace Go.Proofs
open Go.Tm
set_option linter.unusedVariables false
open Classical
theorem zuq : ∀ (ms : List TMessage) (l4 : List TTopic) (l5 : List (List Int)) (l6 : List TTook), StOk ⟨l4, l5⟩ -> l6.length + ms.length < 1000000 ->
  ∃ a b c, zbi ms l4 l5 l6 = some (a, b, c) /\ StOk ⟨a, b⟩ /\ c.length <= l6.length + ms.length
 | [], l4, l5, l6, h, _ => ⟨l4, l5, l6, rfl, h, za4 _⟩
 | y :: r, l4, l5, l6, h, hl => by
  simp only [za5] at hl
  rw [zej]
  obtain ⟨z, e, h1, h2⟩ := ya49 ⟨l4, l5⟩ y
  rw [e]
  simp only [za1]
  by_cases h0 : z.2.2 = 0
  rw [if_neg (by omega), if_pos (by simp only [za5, zac]; omega)]
  simp only [za1]
  obtain ⟨a, b, c, e1, e2, e3⟩ := zuq r z.1.Topics z.1.Commits (l6 ++ [⟨y.Id, y.Topic, z.2.1⟩]) (h1 h0).2.2.1 (by simp only [zae, za5, zac]; omega)
  refine ⟨a, b, c, e1, e2, ?_⟩
  simp only [zae, za5, zac] at e3 ⊢
  omega
  rw [if_pos h0]
  simp only [za1]
  obtain ⟨a, b, c, e1, e2, e3⟩ := zuq r l4 l5 l6 h (by omega)
  refine ⟨a, b, c, e1, e2, ?_⟩
  simp only [za5]
  omega
theorem ya4a (h h' : THome) (c : TCommand) (e : zc9 ⟨h⟩ c = some ⟨h'⟩) : h'.Skeen = h.Skeen := by
 unfold zc9 at e
 obtain ⟨v, hv, e⟩ := za2 e
 split at e
 split at e
 injection e with e; injection e with e; rw [<- e]
 obtain ⟨v, hv, e⟩ := za2 e
 split at e
 injection e with e; injection e with e; rw [<- e]
 injection e with e; injection e with e; rw [<- e]
 cases e
theorem gdo2 (h : THome) (k : HOk h) (g : Int) (c : TCommand) (hc : zb6 c = some 0) : ∃ tk e h', zbs ⟨h⟩ g c = some (tk, e, ⟨h'⟩) /\ tk.length + h.Skeen.Done.length <= h'.Skeen.Done.length /\ HOk h' /\
  (e = none \/ ∃ x, e = some x /\ x.2 ≠ 0 /\ tk = [] /\ h' = h) := by
 unfold zbs
 by_cases hk : c.Kind >= 4
 rw [if_pos hk]
 obtain ⟨h', e, h1, _⟩ := ya4b h k c (ya2d c hc hk)
 have hs := ya4a h h' c e
 rw [e]
 exact ⟨[], none, h', rfl, by rw [hs]; simp, h1, .inl rfl⟩
 rw [if_neg hk]
 rcases zut h.Skeen g c k.v with ⟨e, he, ha, _⟩ | ⟨W, ck, ws, W', _, ha, hv, _⟩
 rw [ha]
 simp only [za1]
 rw [if_pos he]
 unfold zf3
 rw [if_neg he]
 exact ⟨_, _, _, rfl, by simp, k, .inr ⟨_, rfl, he, rfl, rfl⟩⟩
 rw [ha]
 simp only [za1]
 rw [if_neg (by simp)]
 have hld := hv.ld
 simp only [zae, List.length_map] at hld
 obtain ⟨a, b, tk, e, hs, hn⟩ := zuq (ws.map TWait.Message) h.Stream.Topics h.Stream.Commits [] k.s (by simp; omega)
 unfold zef
 rw [e]
 refine ⟨tk, none, ⟨⟨ck, W', h.Skeen.Done ++ ws.map stW⟩, ⟨a, b⟩, h.Last⟩, rfl, ?_, ⟨hv, hs, k.l, k.x⟩, .inl rfl⟩
 simp only [List.length_map, zac] at hn
 simp only [zae, List.length_map]
 omega
def gst (g : Int) (h : THome) (c : TCommand) : THome × List TTook := match zbs ⟨h⟩ g c with
 | some (tk, _, ⟨h'⟩) => (h', tk)
 | none => (h, [])
def gpl (g : Int) : List TCommand -> THome -> List TTook -> THome × List TTook
 | [], h, o => (h, o)
 | c :: l, h, o => gpl g l (gst g h c).1 (o ++ (gst g h c).2)
theorem ya1t (g : Int) (h : THome) (k : HOk h) (c : TCommand) (hc : zb6 c = some 0) : HOk (gst g h c).1 /\ (gst g h c).2.length + h.Skeen.Done.length <= (gst g h c).1.Skeen.Done.length /\
  ∃ e, zbs ⟨h⟩ g c = some ((gst g h c).2, e, ⟨(gst g h c).1⟩) /\ (e = none \/ ∃ x, e = some x /\ x.2 ≠ 0 /\ (gst g h c).2 = [] /\ (gst g h c).1 = h) := by
 obtain ⟨tk, e, h', e1, e2, e3, e4⟩ := gdo2 h k g c hc
 have : gst g h c = (h', tk) := by unfold gst; rw [e1]
 rw [this]
 exact ⟨e3, e2, e, e1, e4⟩
theorem ya1v (g : Int) : ∀ (l : List TCommand) (h : THome) (o : List TTook), HOk h -> o.length <= h.Skeen.Done.length -> (∀ c ∈ l, zb6 c = some 0) -> HOk (gpl g l h o).1 /\ (gpl g l h o).2.length <= (gpl g l h o).1.Skeen.Done.length
 | [], h, o, k, hl, _ => ⟨k, hl⟩
 | c :: l, h, o, k, hl, hc => by
  obtain ⟨a, b, _⟩ := ya1t g h k c (hc c (List.mem_cons_self ..))
  exact ya1v g l _ _ a (by rw [zae]; omega) fun d hd => hc d (zaj _ hd)
def t7 (x : THome × List TTook) : Int × List TWait × List TStamp × List TTopic × List (List Int) × List Int × List TTook := (x.1.Skeen.Clock, x.1.Skeen.Waits, x.1.Skeen.Done, x.1.Stream.Topics, x.1.Stream.Commits, x.1.Last, x.2)
theorem zvh (g : Int) : ∀ (l : List TCommand) (h : THome) (o : List TTook), HOk h -> o.length <= h.Skeen.Done.length -> (∀ c ∈ l, zb6 c = some 0) ->
  zds g l h.Skeen.Clock h.Skeen.Waits h.Skeen.Done h.Stream.Topics h.Stream.Commits h.Last o = some (t7 (gpl g l h o))
 | [], h, o, _, _, _ => rfl
 | c :: l, h, o, k, hl, hc => by
  obtain ⟨a, b, e, e1, e2⟩ := ya1t g h k c (hc c (List.mem_cons_self ..))
  have hd := a.v.ld
  rw [zj6]
  have e1' : zbs (⟨(⟨(⟨h.Skeen.Clock, h.Skeen.Waits, h.Skeen.Done⟩ : TSkeen), (⟨h.Stream.Topics, h.Stream.Commits⟩ : TStream), h.Last⟩ : THome)⟩ : Tgroup_home) g c = _ := e1
  rw [e1']
  simp only [za1]
  have ih := zvh g l (gst g h c).1 (o ++ (gst g h c).2) a (by rw [zae]; omega) fun d hd => hc d (zaj _ hd)
  rcases e2 with rfl | ⟨x, rfl, x1, x2, x3⟩
  simp only [zh9, za1, zan, if_false]
  rw [if_pos (by omega)]
  exact ih
  simp only [zh9, za1]
  rw [x2, x3, zag] at ih
  have hg : gpl g (c :: l) h o = gpl g l h o := by rw [gpl, x2, x3, zag]
  rw [hg]
  rw [x2, x3]
  by_cases h9 : decide (x.2 = 9) = true
  rw [if_pos h9]
  exact ih
  rw [if_neg h9, if_pos (by rw [zac]; omega), zag]
  exact ih
end Go.Proofs
namespace Go.Proofs
open Go.Tm
set_option linter.unusedVariables false
end Go.Proofs
namespace Go.Proofs
open Go.Tm
set_option linter.unusedVariables false
open Classical
theorem ya5x : zep = some true := by decide +kernel
theorem zvq (l : List (List UInt8)) : ∀ (fu k : Nat) (n : Int), 1000 - k < fu -> k <= 1000 -> ∃ r, zbo l fu n (k : Int) = some r
 | 0, k, n, h, _ => by omega
 | fu + 1, k, n, h, hk => by
  rw [zbo]
  by_cases hc : (k : Int) < (l.length : Int) /\ (k : Int) < 1000
  rw [if_pos hc, if_pos (by omega), wrk ((k : Int) + 1) (by omega)]
  exact zvq l fu (k + 1) _ (by omega) (by omega)
  rw [if_neg hc]; exact ⟨n, rfl⟩
theorem ya5c (l : List (List UInt8)) : ∃ b, ze5 l = some b := by
 obtain ⟨r, hr⟩ := zvq l 1002 0 0 (by omega) (by omega)
 have hr' : zbo l 1002 0 0 = some r := hr
 rw [ze5, hr']
 exact ⟨_, rfl⟩
theorem ya8p : ∃ h, zfu = some h /\ HOk h := by
 have e : Option.bind zfu zgn = some 0 := by decide +kernel
 obtain ⟨h, e1, e2⟩ := za2 e
 refine ⟨h, e1, ?_⟩
 rw [ya81] at e2
 exact Classical.byContradiction fun k => by rw [if_neg k] at e2; cases e2
end Go.Proofs
namespace Go.Proofs
open Go.Tm
set_option linter.unusedSimpArgs false
def stp (g : Int) (s : TSkeen) (c : TCommand) : TSkeen × List TMessage := match zcc s g c with
 | some r => if r.2.2 = 0 then (r.1, r.2.1) else (s, [])
 | none => (s, [])
theorem ya44 {g : Int} {s : TSkeen} {c : TCommand} (h : V s) : ∃ r, zcc s g c = some r /\ V (stp g s c).1 /\ s.Clock <= (stp g s c).1.Clock /\ (∃ d : List TStamp, (stp g s c).1.Done = s.Done ++ d /\ d.length = (stp g s c).2.length) /\
  ((¬ r.2.2 = 0 /\ stp g s c = (s, [])) \/ (r.2.2 = 0 /\ stp g s c = (r.1, r.2.1))) := by
 rcases zut s g c h with ⟨e, he, ha, _⟩ | ⟨W, ck, ws, W', _, ha, hV, hck, _⟩
 have : stp g s c = (s, []) := by simp only [stp, ha, if_neg he]
 rw [this]
 exact ⟨_, ha, h, Int.le_refl _, ⟨[], by simp, rfl⟩, .inl ⟨he, rfl⟩⟩
 have : stp g s c = (⟨ck, W', s.Done ++ ws.map stW⟩, ws.map TWait.Message) := by simp only [stp, ha, if_true]
 rw [this]
 exact ⟨_, ha, hV, hck, ⟨ws.map stW, rfl, by simp⟩, .inr ⟨rfl, rfl⟩⟩
def fin (g : Int) : TSkeen -> List TCommand -> TSkeen
 | s, [] => s
 | s, c :: l => fin g (stp g s c).1 l
def outs (g : Int) : TSkeen -> List TCommand -> List TMessage
 | _, [] => []
 | s, c :: l => (stp g s c).2 ++ outs g (stp g s c).1 l
theorem ya8t (g : Int) : ∀ (l : List TCommand) (s : TSkeen), V s -> V (fin g s l) /\ s.Clock <= (fin g s l).Clock /\ ∃ d : List TStamp, (fin g s l).Done = s.Done ++ d /\ d.length = (outs g s l).length := by
 intro l
 induction l with
 | nil => intro s h; exact ⟨h, Int.le_refl _, [], by simp [fin], rfl⟩
 | cons c l ih =>
  intro s h
  obtain ⟨r, _, h1, h2, ⟨d, h3, h4⟩, _⟩ := ya44 (g := g) (c := c) h
  obtain ⟨k1, k2, e, k3, k4⟩ := ih _ h1
  exact ⟨k1, Int.le_trans h2 k2, d ++ e, by rw [fin, k3, h3, List.append_assoc], by simp [outs, h4, k4]⟩
theorem zzo (g : Int) : ∀ (l : List TCommand) (s : TSkeen) (out : List TMessage), V s -> out.length = s.Done.length -> zbu g l out s.Clock s.Waits s.Done = some (out ++ outs g s l, (fin g s l).Clock, (fin g s l).Waits, (fin g s l).Done) := by
 intro l
 induction l with
 | nil => intro s out _ _; simp [zbu, outs, fin]
 | cons c l ih =>
  intro s out h ho
  obtain ⟨r, hr, h1, h2, ⟨d, h3, h4⟩, h5⟩ := ya44 (g := g) (c := c) h
  have hld := h1.ld
  have hlo : out.length + (stp g s c).2.length = (stp g s c).1.Done.length := by rw [h3, ho]; simp [h4]
  rw [zbu]
  have hr' : zcc ⟨s.Clock, s.Waits, s.Done⟩ g c = some r := hr
  rw [hr']
  simp only [za1, fin, outs]
  rcases h5 with ⟨he, hs⟩ | ⟨he, hs⟩
  rw [hs] at h1 hlo ⊢
  rw [if_pos he]
  simp only [za1, zh0]
  have hlo2 : out.length <= 200 := by have := h.ld; omega
  rw [if_pos (by simp; omega)]
  simp only [za1]
  have := ih s (out ++ []) h1 (by simpa using hlo)
  simpa using this
  rw [hs] at h1 hlo ⊢
  rw [if_neg (by simpa using he)]
  simp only [za1, zh0]
  have hl3 : out.length + r.2.1.length = r.1.Done.length := hlo
  have hl4 := h1.ld
  have hl4 : r.1.Done.length <= 200 := hl4
  rw [if_pos (by omega)]
  simp only [za1]
  have := ih r.1 (out ++ r.2.1) h1 (by simpa using hlo)
  simpa [List.append_assoc] using this
theorem ya4j : V ⟨0, [], []⟩ := ⟨by decide, by decide, by decide, by decide, ⟨by simp, by simp, by simp⟩, ⟨by simp, by simp [zqj]⟩, by simp⟩
def askS (g : Int) (l : List (List UInt8)) : Int := if g < 0 \/ g >= 4 then 2 else if (l.length : Int) > 200 then 4 else if zop l = none then 8 else 0
theorem ya42 {s : TSkeen} (h : V s) : zdu s = some s := zwi s (by have := h.lw; omega) (by have := h.ld; omega) (fun w hw => by have := (h.w.1 w hw).1.groups; omega)
theorem ya1a (g : Int) (l : List (List UInt8)) : (∃ e, e ≠ 0 /\ askS g l = e /\ zgd g l = some (zSk, [], e)) \/
  ∃ cs, askS g l = 0 /\ zop l = some cs /\ l.length <= 200 /\ zgd g l = some (fin g zSk cs, outs g zSk cs, 0) := by
 rw [zgd, zgm]
 unfold askS
 by_cases hg : g < 0 \/ g >= 4
 rw [if_pos hg, if_pos hg]; exact .inl ⟨2, by omega, rfl, rfl⟩
 rw [if_neg hg, if_neg hg, ya2c]
 by_cases hl : (l.length : Int) > 200
 rw [if_pos hl, if_pos hl]; exact .inl ⟨4, by omega, rfl, rfl⟩
 rw [if_neg hl, if_neg hl]
 cases hc : zop l with
 | none => exact .inl ⟨8, by omega, rfl, rfl⟩
 | some cs =>
  right
  refine ⟨cs, by simp, rfl, by omega, ?_⟩
  simp only [za1, not_true_eq_false, if_false]
  have h1 := zzo g cs zSk [] ya4j rfl
  have h1 : zbu g cs [] 0 [] [] = _ := h1
  have h2 := ya42 (ya8t g cs zSk ya4j).1
  rw [zi7]
  simp only [za1, h1]
  have h2 : zdu ⟨(fin g zSk cs).Clock, (fin g zSk cs).Waits, (fin g zSk cs).Done⟩ = _ := h2
  rw [h2]
  simp
end Go.Proofs
namespace Go.Proofs
open Go.Tm
set_option linter.unusedVariables false
open Classical
def nx (s : TStream) (t : Nat) : Int := (s.Topics.getD t default).Next
theorem ya28 {s : TStream} {c : TCommand} {r : TStream × Int} (h : StOk s) (e : zem s c = some r) (h0 : r.2 = 0) : r.1.Topics = s.Topics := by
 unfold zem at e
 by_cases h1 : ((c.Who < 0 \/ c.Who >= 8) \/ c.N < 0) \/ c.N > 1073741824
 rw [if_pos h1] at e
 obtain rfl := sj e
 exact absurd h0 (by decide)
 rw [if_neg h1] at e
 split at e
 split at e
 obtain rfl := sj e
 exact absurd h0 (by decide)
 rw [ya2x h] at e
 simp only [za1] at e
 obtain ⟨v, hv, e⟩ := za2 e
 obtain rfl := sj e
 rfl
 cases e
theorem ya45 (s : TStream) (i : Nat) (t : TTopic) (hi : i < s.Topics.length) (ht : t.Next = nx s i) (j : Nat) : nx ⟨s.Topics.set i t, s.Commits⟩ j = nx s j := by
 show ((s.Topics.set i t).getD j default).Next = _
 rw [zn0 _ _ _ _ _ hi]
 split
 rename_i e; rw [e]; exact ht
 rfl
theorem ya8w {s : TStream} {c : TCommand} {r : TStream × Int} (e : zh8 s c = some r) (h0 : r.2 = 0) (j : Nat) : nx r.1 j = nx s j := by
 unfold zh8 at e
 rw [zv7] at e
 simp only [za1] at e
 by_cases h : StOk s
 rw [if_pos h] at e
 have tl := h.tl
 by_cases hb : 0 <= c.Topic /\ c.Topic < 4
 rw [if_pos hb, if_neg (by simp)] at e
 by_cases k4 : c.Kind = 4
 rw [if_pos k4] at e
 obtain ⟨v, hv, e⟩ := za2 e
 have e := sj e
 rw [<- e] at h0 ⊢
 show (v.1.Topics.getD j default).Next = _
 rw [ya28 h hv h0]; rfl
 rw [if_neg k4] at e
 by_cases k5 : c.Kind = 5
 rw [if_pos k5, if_pos (by omega)] at e
 obtain ⟨r', e', h1, h2, _⟩ := ya0n (s.Topics.getD c.Topic.toNat default) c.N
 rw [e'] at e
 simp only [za1] at e
 by_cases hz : r'.2 = 0
 obtain ⟨j1, j2, j3, j4⟩ := h1 hz
 rw [if_neg (by omega), zzg h hb, j4] at e
 obtain rfl := sj e
 exact ya45 s c.Topic.toNat (ya0o (s.Topics.getD c.Topic.toNat default) c.N) (by omega) rfl j
 rw [if_pos hz] at e
 obtain rfl := sj e
 exact absurd h0 hz
 rw [if_neg k5] at e
 by_cases k6 : c.Kind = 6
 rw [if_pos k6, if_pos (by omega)] at e
 obtain ⟨r', e', h1, h2, _⟩ := ya27 (s.Topics.getD c.Topic.toNat default) c.N
 rw [e'] at e
 simp only [za1] at e
 by_cases hz : r'.2 = 0
 obtain ⟨j1, j2, j3, j4⟩ := h1 hz
 rw [if_neg (by omega), zzg h hb, j4] at e
 obtain rfl := sj e
 exact ya45 s c.Topic.toNat (ya5s (s.Topics.getD c.Topic.toNat default) c.N) (by omega) rfl j
 rw [if_pos hz] at e
 obtain rfl := sj e
 exact absurd h0 hz
 rw [if_neg k6] at e
 obtain rfl := sj e
 exact absurd h0 (by decide)
 rw [if_neg hb, if_pos (by decide)] at e
 obtain rfl := sj e
 exact absurd h0 (by decide)
 rw [if_neg h, if_pos (by decide)] at e
 obtain rfl := sj e
 exact absurd h0 (by decide)
theorem ya7l (h h' : THome) (c : TCommand) (e : zc9 ⟨h⟩ c = some ⟨h'⟩) (j : Nat) : nx h'.Stream j = nx h.Stream j := by
 unfold zc9 at e
 obtain ⟨v, hv, e⟩ := za2 e
 split at e
 split at e
 injection e with e; injection e with e; rw [<- e]
 obtain ⟨v, hv, e⟩ := za2 e
 split at e
 rename_i h0
 injection e with e; injection e with e; rw [<- e]
 exact ya8w hv h0 j
 injection e with e; injection e with e; rw [<- e]
 cases e
theorem ya4e {mark next : Int} : ∀ (l : List TEntry) (s : List (List UInt8)) (x : Int), EsP mark next l s x -> x + 1 <= next -> (l.length : Int) <= next - (x + 1)
 | [], s, x, _, h => by simp; omega
 | y :: r, s, x, h, hx => by
  simp only [EsP] at h
  have := ya4e r _ _ h.2.2.2.2.2 (by omega)
  simp only [za5]
  omega
theorem TOk.few {t : TTopic} (h : TOk t) : (t.Entries.length : Int) <= t.Next := by
 have := ya4e t.Entries _ _ h.es (by have := h.b1; omega)
 have := h.b0
 omega
theorem zk1.all {m : TMessage} (h : zk1 m) : (0 <= m.Topic /\ m.Topic < 4) /\ (m.Key.length : Int) <= 16 /\ (m.Body.length : Int) <= 64 := by
 unfold zk1 zbj at h
 obtain ⟨b, hb, h⟩ := za2 h
 obtain ⟨v2, h2, h⟩ := za2 h
 obtain ⟨v3, h3, h⟩ := za2 h
 split at h
 cases h
 rename_i hn
 have n1 : b = true := Classical.byContradiction fun k => hn (.inl (.inl (.inl (.inl k))))
 have n2 : v2 = true := Classical.byContradiction fun k => hn (.inl (.inl (.inl (.inr k))))
 have n3 : v3 = true := Classical.byContradiction fun k => hn (.inl (.inl (.inr k)))
 rw [if_pos (by simp [n1, n2]), zud] at h3
 rw [n3] at h3
 have h3 := of_decide_eq_true (sj h3)
 exact ⟨by omega, Int.not_lt.1 fun k => hn (.inl (.inr k)), Int.not_lt.1 fun k => hn (.inr k)⟩
theorem ya7i (s : TStream) (h : StOk s) (m : TMessage) (hm : zk1 m) (hn : nx s m.Topic.toNat < 200) : zf0 s m = some (⟨s.Topics.set m.Topic.toNat (addT (s.Topics.getD m.Topic.toNat default) m.Id m.Key m.Body), s.Commits⟩, nx s m.Topic.toNat, 0) := by
 obtain ⟨hb, hk, hy⟩ := hm.all
 have hi := hm.id
 have tl := h.tl
 have ht := h.t _ (zkb default s.Topics m.Topic.toNat (by omega))
 have hf := ht.few
 unfold nx at hn ⊢
 unfold zf0
 rw [zv7]
 simp only [za1]
 rw [if_pos h, if_pos hb, if_neg (by simp), if_pos (by omega)]
 obtain ⟨r, e, h1, h2, h3⟩ := ya4i (s.Topics.getD m.Topic.toNat default) m.Id m.Key m.Body
 have h0 := h3 ht ⟨⟨by unfold IdOk at hi; show m.Id >= 0 /\ m.Id < 6291456; omega, hk⟩, hy⟩ (by omega) (by omega)
 rw [e]
 simp only [za1]
 rw [if_neg (by omega)]
 obtain ⟨k1, k2, k3, k4, k5⟩ := h1 h0
 rw [zzg h hb, k5]
 rfl
def cnt (t : Nat) : List TMessage -> Int
 | [] => 0
 | m :: l => (if m.Topic.toNat = t then 1 else 0) + cnt t l
theorem zxi (t : Nat) : ∀ (a b : List TMessage), cnt t (a ++ b) = cnt t a + cnt t b
 | [], b => by simp [cnt]
 | m :: a, b => by simp only [zal, cnt, zxi t a b]; omega
theorem ya2a (t : Nat) : ∀ a : List TMessage, 0 <= cnt t a /\ cnt t a <= a.length
 | [] => by simp [cnt]
 | m :: a => by have := ya2a t a; simp only [cnt, za5]; split <;> omega
def tks : List TMessage -> List TMessage -> List TTook
 | pre, [] => []
 | pre, m :: l => ⟨m.Id, m.Topic, cnt m.Topic.toNat pre⟩ :: tks (pre ++ [m]) l
theorem ya0p : ∀ (a pre b : List TMessage), tks pre (a ++ b) = tks pre a ++ tks (pre ++ a) b
 | [], pre, b => by simp [tks]
 | m :: a, pre, b => by simp only [zal, tks, ya0p a (pre ++ [m]) b, List.append_assoc, zai]
theorem ztv : ∀ (a pre : List TMessage), (tks pre a).length = a.length
 | [], _ => rfl
 | m :: a, pre => by simp only [tks, za5, ztv a]
theorem zz1 : ∀ (ms pre : List TMessage) (l4 : List TTopic) (l5 : List (List Int)) (l6 : List TTook), StOk ⟨l4, l5⟩ -> (∀ t, t < 4 -> nx ⟨l4, l5⟩ t = cnt t pre) -> (∀ m ∈ ms, zk1 m) -> pre.length + ms.length <= 200 -> l6.length + ms.length < 1000000 ->
  ∃ a b, zbi ms l4 l5 l6 = some (a, b, l6 ++ tks pre ms) /\ StOk ⟨a, b⟩ /\ ∀ t, t < 4 -> nx ⟨a, b⟩ t = cnt t (pre ++ ms)
 | [], pre, l4, l5, l6, h, hn, _, _, _ => ⟨l4, l5, by simp [zbi, tks], h, by simpa using hn⟩
 | y :: r, pre, l4, l5, l6, h, hn, hm, hp, hl => by
  simp only [za5] at hl hp
  have my := hm y (List.mem_cons_self ..)
  obtain ⟨hb, hk, hy⟩ := my.all
  have e0 := hn y.Topic.toNat (by omega)
  have hc := ya2a y.Topic.toNat pre
  have e := ya7i ⟨l4, l5⟩ h y my (by omega)
  obtain ⟨z, e', h1, h2⟩ := ya49 ⟨l4, l5⟩ y
  have hz := sj (e'.symm.trans e)
  have hs := (h1 (by rw [hz])).2.2.1
  rw [hz] at hs
  have tl := h.tl
  rw [zej, e]
  simp only [za1, not_true_eq_false, if_false, e0]
  rw [if_pos (by simp only [za5, zac]; omega)]
  simp only [za1]
  obtain ⟨a, b, e1, e2, e3⟩ := zz1 r (pre ++ [y]) (l4.set y.Topic.toNat (addT (l4.getD y.Topic.toNat default) y.Id y.Key y.Body)) l5 (l6 ++ [⟨y.Id, y.Topic, cnt y.Topic.toNat pre⟩]) hs (fun t ht => by
   have e9 := hn t ht
   unfold nx at e9 e0 ⊢
   show ((l4.set y.Topic.toNat _).getD t default).Next = _
   rw [zn0 _ _ _ _ _ (by show y.Topic.toNat < l4.length; have : (l4.length : Int) = 4 := tl; omega), zxi]
   by_cases ht : t = y.Topic.toNat
   rw [if_pos ht, ht]
   show (l4.getD y.Topic.toNat default).Next + 1 = _
   simp only [cnt, if_true]
   have : (l4.getD y.Topic.toNat default).Next = _ := e0
   omega
   rw [if_neg ht]
   simp only [cnt, if_neg (fun k : y.Topic.toNat = t => ht k.symm)]
   have : (l4.getD t default).Next = _ := e9
   omega) (fun m hh => hm m (zaj _ hh)) (by simp only [zae, za5, zac]; omega) (by simp only [zae, za5, zac]; omega)
  refine ⟨a, b, ?_, e2, fun t ht => by have := e3 t ht; simpa [List.append_assoc] using this⟩
  rw [e1]
  simp [tks, List.append_assoc]
theorem ya2h {s : TSkeen} (h : V s) {g : Int} (hg : 0 <= g /\ g < 4) {c : TCommand} (hc : zb6 c = some 0) (hk : 4 <= c.Kind) : zcc s g c = some (s, [], 0) := by
 rw [zcc, zz5 h]
 simp only [za1, not_true_eq_false, if_false]
 rw [if_neg (by omega), hc]
 simp only [za1, not_true_eq_false, if_false]
 rw [ya42 h]
 simp only [za1]
 rw [if_neg (by omega), if_neg (by omega)]
 simp only [za1]
 have hd : zcr (⟨(⟨s.Clock, s.Waits, s.Done⟩ : TSkeen)⟩ : Tskeen_clock) = some ([], ⟨s⟩) := by
  rw [zcr]
  have : zb5 (⟨(⟨s.Clock, s.Waits, s.Done⟩ : TSkeen)⟩ : Tskeen_clock) (s.Waits.length + 1) s.Waits s.Done [] = some (s.Waits, s.Done, []) := by
   rw [zb5]
   cases hW : s.Waits with
   | nil => simp
   | cons y l =>
    have hl := h.lw
    rw [hW] at hl
    simp only [za5] at hl
    rw [if_pos (by simp only [za5]; omega), ya1l y l (by omega)]
    simp only [za1]
    rw [if_pos (by rw [h.m y l hW]; simp)]
  show Option.bind (zb5 _ (s.Waits.length + 1) s.Waits s.Done []) _ = _
  rw [this]
  rfl
 rw [hd]
 simp only [za1]
 have hl := h.ld
 rw [if_neg (by show ¬ (s.Done.length : Int) > 200; omega)]
structure SN (h : THome) (ms : List TMessage) : Prop where
 n : ∀ t, t < 4 -> nx h.Stream t = cnt t ms
 l : ms.length = h.Skeen.Done.length
 m : ∀ m ∈ ms, zk1 m
theorem ya2y {s : TSkeen} {g : Int} {c : TCommand} {W : List TWait} {ck : Int} (h : V s) (hc : zb6 c = some 0) (st : Step s g c W ck) : ∀ w ∈ W, zk1 w.Message := by
 intro w hw
 rcases st with ⟨rfl, _⟩ | ⟨k1, _, _, rfl⟩ | ⟨_, _, k, hk, _, _, _, rfl⟩
 exact (h.w.1 w hw).1
 rcases List.mem_append.1 hw with hw | hw
 exact (h.w.1 w (List.mem_of_mem_take hw)).1
 rcases List.mem_cons.1 hw with rfl | hw
 obtain ⟨e, he, hh⟩ := zxj c
 rw [hc] at he
 exact (hh (sj he).symm).1 k1
 exact (h.w.1 w (List.mem_of_mem_drop hw)).1
 rcases zpe hw with rfl | hw
 exact (h.w.1 _ (List.getElem_mem hk)).1
 exact (h.w.1 w hw).1
theorem ya86 (h : THome) (k : HOk h) (g : Int) (hg : 0 <= g /\ g < 4) (c : TCommand) (hc : zb6 c = some 0) (ms : List TMessage) (S : SN h ms) :
  (gst g h c).1.Skeen = (stp g h.Skeen c).1 /\ (gst g h c).2 = tks ms (stp g h.Skeen c).2 /\ SN (gst g h c).1 (ms ++ (stp g h.Skeen c).2) := by
 by_cases hk : c.Kind >= 4
 obtain ⟨h', e, h1, _⟩ := ya4b h k c (ya2d c hc hk)
 have hs := ya4a h h' c e
 have hd : zbs ⟨h⟩ g c = some ([], none, ⟨h'⟩) := by
  unfold zbs
  rw [if_pos hk, e]
  rfl
 have es : stp g h.Skeen c = (h.Skeen, []) := by simp only [stp, ya2h k.v hg hc hk, if_true]
 have eg : gst g h c = (h', []) := by unfold gst; rw [hd]
 rw [es, eg]
 refine ⟨hs, rfl, ⟨fun t ht => ?_, ?_, ?_⟩⟩
 show nx h'.Stream t = _
 rw [ya7l h h' c e t, zag]; exact S.n t ht
 show _ = h'.Skeen.Done.length
 rw [hs, zag]; exact S.l
 rw [zag]; exact S.m
 rcases zut h.Skeen g c k.v with ⟨e, he, ha, _⟩ | ⟨W, ck, ws, W', st, ha, hv, _, hw, _⟩
 have hd : ∃ x, zbs ⟨h⟩ g c = some ([], x, ⟨h⟩) := by
  unfold zbs
  rw [if_neg hk]
  have ha' : zcc (⟨h⟩ : Tgroup_home).Home.Skeen g c = _ := ha
  rw [ha']
  simp only [za1]
  rw [if_pos he]
  unfold zf3
  rw [if_neg he]
  exact ⟨_, rfl⟩
 obtain ⟨x, hd⟩ := hd
 have es : stp g h.Skeen c = (h.Skeen, []) := by simp only [stp, ha, if_neg he]
 have eg : gst g h c = (h, []) := by unfold gst; rw [hd]
 rw [es, eg]
 exact ⟨rfl, rfl, by rw [zag]; exact S⟩
 have hm : ∀ m ∈ ws.map TWait.Message, zk1 m := by
  intro m hh
  obtain ⟨w, hw', rfl⟩ := List.mem_map.1 hh
  exact ya2y k.v hc st w (hw w hw').1
 have hld : (h.Skeen.Done ++ ws.map stW).length <= 200 := hv.ld
 simp only [zae, List.length_map] at hld
 have hSl := S.l
 obtain ⟨a, b, e1, e2, e3⟩ := zz1 (ws.map TWait.Message) ms h.Stream.Topics h.Stream.Commits [] k.s S.n hm (by rw [List.length_map]; omega) (by simp only [List.length_map, zac]; omega)
 have hd : zbs ⟨h⟩ g c = some (tks ms (ws.map TWait.Message), none, ⟨⟨⟨ck, W', h.Skeen.Done ++ ws.map stW⟩, ⟨a, b⟩, h.Last⟩⟩) := by
  unfold zbs
  rw [if_neg hk]
  have ha' : zcc (⟨h⟩ : Tgroup_home).Home.Skeen g c = _ := ha
  rw [ha']
  simp only [za1]
  rw [if_neg (by simp)]
  unfold zef
  rw [e1]
  rfl
 have es : stp g h.Skeen c = (⟨ck, W', h.Skeen.Done ++ ws.map stW⟩, ws.map TWait.Message) := by simp only [stp, ha, if_true]
 have eg : gst g h c = (⟨⟨ck, W', h.Skeen.Done ++ ws.map stW⟩, ⟨a, b⟩, h.Last⟩, tks ms (ws.map TWait.Message)) := by unfold gst; rw [hd]
 rw [es, eg]
 refine ⟨rfl, rfl, ⟨e3, ?_, fun m hh => ?_⟩⟩
 show _ = (h.Skeen.Done ++ ws.map stW).length
 simp only [zae, List.length_map]; omega
 rcases List.mem_append.1 hh with hh | hh
 exact S.m m hh
 exact hm m hh
theorem ya1u (g : Int) (hg : 0 <= g /\ g < 4) : ∀ (l : List TCommand) (h : THome) (ms : List TMessage), HOk h -> SN h ms -> (∀ c ∈ l, zb6 c = some 0) ->
  (gpl g l h (tks [] ms)).2 = tks [] (ms ++ outs g h.Skeen l) /\ SN (gpl g l h (tks [] ms)).1 (ms ++ outs g h.Skeen l)
 | [], h, ms, k, S, _ => by simp only [gpl, outs, zag]; exact ⟨trivial, S⟩
 | c :: l, h, ms, k, S, hc => by
  have ck := hc c (List.mem_cons_self ..)
  obtain ⟨d1, d2, d3⟩ := ya86 h k g hg c ck ms S
  obtain ⟨a, _⟩ := ya1t g h k c ck
  have ih := ya1u g hg l (gst g h c).1 (ms ++ (stp g h.Skeen c).2) a d3 fun d hd => hc d (zaj _ hd)
  rw [gpl, d2]
  rw [d1, ya0p, zai, List.append_assoc] at ih
  exact ih
theorem new2 {h : THome} (e : zfu = some h) : h.Skeen = zSk /\ SN h [] := by
 have e0 : (zfu.map fun h => (h.Skeen.Clock, h.Skeen.Waits.length, h.Skeen.Done.length, (List.range 4).map (nx h.Stream))) = some (0, 0, 0, [0, 0, 0, 0]) := by decide +kernel
 rw [e] at e0
 obtain ⟨⟨c, W, D⟩, s, l⟩ := h
 simp only [Option.map_some, za3, za6] at e0
 obtain ⟨rfl, e2, e3, e4⟩ := e0
 obtain rfl := List.length_eq_zero_iff.1 e2
 obtain rfl := List.length_eq_zero_iff.1 e3
 refine ⟨rfl, ⟨fun t ht => ?_, rfl, by simp⟩⟩
 have e4' : [nx s 0, nx s 1, nx s 2, nx s 3] = [0, 0, 0, 0] := e4
 simp only [List.cons.injEq] at e4'
 obtain ⟨a0, a1, a2, a3, _⟩ := e4'
 have : t = 0 \/ t = 1 \/ t = 2 \/ t = 3 := by omega
 rcases this with rfl | rfl | rfl | rfl <;> assumption
theorem ya80 (g : Int) (l : List (List UInt8)) {h0 : THome} (hn : zfu = some h0) (k0 : HOk h0) : (∃ e, e ≠ 0 /\ askS g l = e /\ zgf g l = some (zHo, [], e)) \/
  ∃ cs, (0 <= g /\ g < 4) /\ zop l = some cs /\ (∀ c ∈ cs, zb6 c = some 0) /\ askS g l = 0 /\ zgf g l = some ((gpl g cs h0 []).1, (gpl g cs h0 []).2, 0) := by
 unfold zgf zhn askS
 by_cases hg : g < 0 \/ g >= 4
 rw [if_pos hg, if_pos hg]
 unfold zf3
 rw [if_neg (by decide)]
 exact .inl ⟨2, by decide, rfl, rfl⟩
 rw [if_neg hg, if_neg hg, ya2c]
 by_cases hl : (l.length : Int) > 200
 rw [if_pos hl, if_pos hl]; exact .inl ⟨4, by decide, rfl, rfl⟩
 rw [if_neg hl, if_neg hl]
 cases hc : zop l with
 | none => exact .inl ⟨8, by decide, rfl, rfl⟩
 | some cs =>
  right
  have ck := ya5t l cs hc
  obtain ⟨ok, _⟩ := ya1v g cs h0 [] k0 (Nat.zero_le _) ck
  refine ⟨cs, by omega, rfl, ck, by simp, ?_⟩
  simp only [za1, not_true_eq_false, if_false, hn]
  rw [zvh g cs h0 [] k0 (Nat.zero_le _) ck]
  have t : zge (⟨(⟨(gpl g cs h0 []).1.Skeen.Clock, (gpl g cs h0 []).1.Skeen.Waits, (gpl g cs h0 []).1.Skeen.Done⟩ : TSkeen), (⟨(gpl g cs h0 []).1.Stream.Topics, (gpl g cs h0 []).1.Stream.Commits⟩ : TStream), (gpl g cs h0 []).1.Last⟩ : THome) = _ := ya8r ok
  simp only [t7, za1, t]
theorem zwk : ∀ (ms pre : List TMessage) (i : Nat), i < ms.length -> (tks pre ms).getD i default = ⟨(ms.getD i default).Id, (ms.getD i default).Topic, cnt (ms.getD i default).Topic.toNat (pre ++ ms.take i)⟩
 | [], _, i, h => by simp at h
 | m :: l, pre, 0, h => by simp [tks]
 | m :: l, pre, i + 1, h => by
  have := zwk l (pre ++ [m]) i (by simpa using h)
  simpa [tks, List.append_assoc] using this
theorem ya3w (t : Nat) (ms : List TMessage) (i : Nat) (h : i < ms.length) : cnt t (ms.take (i + 1)) = cnt t (ms.take i) + if (ms.getD i default).Topic.toNat = t then 1 else 0 := by
 have e : ms.take (i + 1) = ms.take i ++ [ms.getD i default] := by rw [List.take_add_one]; simp [List.getD_eq_getElem?_getD, h]
 rw [e, zxi]
 simp [cnt]
theorem ya8o (p : THome × List TTook × Int) (m : TSkeen × List TMessage × Int) (i : Nat) (hp : p.2.1 = tks [] m.2.1) (hi : i < m.2.1.length) : zbf p m (i : Int) 201 (i : Int) = some (i : Int) := by
 rw [zbf]
 have e : p.2.1.getD ((i : Int)).toNat default = ⟨(m.2.1.getD i default).Id, (m.2.1.getD i default).Topic, cnt (m.2.1.getD i default).Topic.toNat ([] ++ m.2.1.take i)⟩ := by rw [hp, Int.toNat_natCast]; exact zwk _ [] i hi
 have hn : m.2.1.getD ((i : Int)).toNat default = m.2.1.getD i default := by rw [Int.toNat_natCast]
 have hpl : p.2.1.length = m.2.1.length := by rw [hp, ztv]
 rw [e, hn, if_pos (by omega), if_pos (by omega), if_neg (by rintro ⟨_, h⟩; exact h rfl)]
theorem at4 (a b c d : Int) (t : Nat) (ht : t < 4) (f : Nat -> Int) (h0 : a = f 0) (h1 : b = f 1) (h2 : c = f 2) (h3 : d = f 3) : [a, b, c, d].getD t 0 = f t := by
 have : t = 0 \/ t = 1 \/ t = 2 \/ t = 3 := by omega
 rcases this with rfl | rfl | rfl | rfl <;> assumption
theorem ya7h (p : THome × List TTook × Int) (m : TSkeen × List TMessage × Int) (hp : p.2.1 = tks [] m.2.1) (hl : m.2.1.length <= 200) (hm : ∀ x ∈ m.2.1, zk1 x) : ∀ (fu i : Nat), m.2.1.length - i < fu -> i <= m.2.1.length ->
  zb8 p m fu (cnt 0 (m.2.1.take i)) (cnt 1 (m.2.1.take i)) (cnt 2 (m.2.1.take i)) (cnt 3 (m.2.1.take i)) (i : Int) (i : Int) = some (.inr (cnt 0 m.2.1, cnt 1 m.2.1, cnt 2 m.2.1, cnt 3 m.2.1))
 | 0, i, h, _ => by omega
 | fu + 1, i, h, hi => by
  have hpl : p.2.1.length = m.2.1.length := by rw [hp, ztv]
  rw [zb8]
  by_cases hc : i < m.2.1.length
  rw [if_pos (by omega), ya8o p m i hp hc]
  have e : p.2.1.getD ((i : Int)).toNat default = ⟨(m.2.1.getD i default).Id, (m.2.1.getD i default).Topic, cnt (m.2.1.getD i default).Topic.toNat (m.2.1.take i)⟩ := by rw [hp, Int.toNat_natCast]; exact zwk _ [] i hc
  obtain ⟨hb, -⟩ := (hm _ (zkb default m.2.1 i hc)).all
  have hn : m.2.1.getD ((i : Int)).toNat default = m.2.1.getD i default := by rw [Int.toNat_natCast]
  have g4 := at4 (cnt 0 (m.2.1.take i)) (cnt 1 (m.2.1.take i)) (cnt 2 (m.2.1.take i)) (cnt 3 (m.2.1.take i)) (m.2.1.getD i default).Topic.toNat (by omega) (fun t => cnt t (m.2.1.take i)) rfl rfl rfl rfl
  have hcl := ya2a (m.2.1.getD i default).Topic.toNat (m.2.1.take i)
  have htl : (m.2.1.take i).length <= 200 := by rw [List.length_take]; omega
  simp only [za1, e, hn, g4]
  rw [if_pos (fun _ => by omega), if_pos (fun _ => by omega), if_pos (fun _ => by omega), if_pos (fun _ => hb), if_neg (by rintro ((h | h) | h); omega; exact h trivial; exact h trivial), if_pos (by omega), if_pos hb]
  simp only [za1]
  have w1 : wr .i64 ((i : Int) + 1) = ((i + 1 : Nat) : Int) := wrk _ (by omega)
  rw [wrk (cnt (m.2.1.getD i default).Topic.toNat (m.2.1.take i) + 1) (by omega), w1]
  have ih := ya7h p m hp hl hm fu (i + 1) (by omega) (by omega)
  have cs := fun t => ya3w t m.2.1 i hc
  have q : ∀ (t : Nat) (z : Int), z = t -> t < 4 -> (if (m.2.1.getD i default).Topic = z then cnt (m.2.1.getD i default).Topic.toNat (m.2.1.take i) + 1 else cnt t (m.2.1.take i)) = cnt t (m.2.1.take (i + 1)) := by
   intro t z hz ht
   rw [cs t]
   by_cases e : (m.2.1.getD i default).Topic = z
   have e' : (m.2.1.getD i default).Topic.toNat = t := by omega
   rw [if_pos e, e', if_pos rfl]
   rw [if_neg e, if_neg (by omega)]; omega
  rw [q 0 0 rfl (by decide), q 1 1 rfl (by decide), q 2 2 rfl (by decide), q 3 3 rfl (by decide)]
  exact ih
  rw [if_neg (by omega), List.take_of_length_le (by omega)]
theorem ya7f (p : THome × List TTook × Int) (ms : List TMessage) (k : HOk p.1) (S : SN p.1 ms) : ∀ (fu t : Nat), 4 - t < fu -> t <= 4 -> zb7 p (cnt 0 ms) (cnt 1 ms) (cnt 2 ms) (cnt 3 ms) fu (t : Int) = some (.inr ())
 | 0, t, h, _ => by omega
 | fu + 1, t, h, ht => by
  rw [zb7]
  by_cases hc : t < 4
  have tl := k.s.tl
  have e : zim p.1.Stream (t : Int) = some (nx p.1.Stream t, 0) := by
   unfold zim
   rw [zv7, if_pos k.s, if_pos (by omega)]
   simp only [za1, not_true_eq_false, if_false]
   rw [if_pos (by omega), Int.toNat_natCast]
   rfl
  rw [if_pos (by omega), e]
  simp only [za1]
  have g4 := at4 (cnt 0 ms) (cnt 1 ms) (cnt 2 ms) (cnt 3 ms) t hc (fun t => cnt t ms) rfl rfl rfl rfl
  rw [Int.toNat_natCast, g4, S.n t hc, if_pos (by omega), if_neg (by simp), wrk ((t : Int) + 1) (by omega)]
  exact ya7f p ms k S fu (t + 1) (by omega) (by omega)
  rw [if_neg (by omega)]
theorem ya7g (a0 : Int) (a1 : List (List UInt8)) : zdy a0 a1 = some true := by
 unfold zdy
 obtain ⟨v2, e2⟩ := ya5c a1
 obtain ⟨h0, n0, k0⟩ := ya8p
 rw [ya5x]
 simp only [za1]
 rw [if_pos trivial, e2]
 simp only [za1]
 by_cases hv : v2 = true
 rw [if_pos (.inl hv)]
 rw [if_neg (by simp [hv])]
 rcases ya80 a0 a1 n0 k0 with ⟨e, he, ha, hp⟩ | ⟨cs, hg, hcs, ck, ha, hp⟩
 rcases ya1a a0 a1 with ⟨e', he', ha', hp'⟩ | ⟨cs, ha', _⟩
 rw [hp, hp']
 simp only [za1]
 rw [if_pos (.inl he)]
 have : e = e' := by omega
 simp [this]
 omega
 rcases ya1a a0 a1 with ⟨e', he', ha', hp'⟩ | ⟨cs', ha', hcs', hl, hp'⟩
 omega
 obtain rfl : cs = cs' := sj (hcs.symm.trans hcs')
 obtain ⟨ok, on⟩ := ya1v a0 cs h0 [] k0 (Nat.zero_le _) ck
 obtain ⟨z, S0⟩ := new2 n0
 obtain ⟨g1, g2⟩ := ya1u a0 hg cs h0 [] k0 S0 ck
 have g1 : (gpl a0 cs h0 []).2 = tks [] (outs a0 zSk cs) := by rw [<- z]; exact g1
 have g2 : SN (gpl a0 cs h0 []).1 (outs a0 zSk cs) := by rw [<- z]; exact g2
 have hd := ok.v.ld
 have hl2 := g2.l
 rw [hp, hp']
 simp only [za1]
 rw [if_neg (by simp)]
 have e1 : zb8 ((gpl a0 cs h0 []).1, (gpl a0 cs h0 []).2, (0 : Int)) (fin a0 zSk cs, outs a0 zSk cs, (0 : Int)) 201 0 0 0 0 0 0 = _ := ya7h ((gpl a0 cs h0 []).1, (gpl a0 cs h0 []).2, (0 : Int)) (fin a0 zSk cs, outs a0 zSk cs, (0 : Int)) g1 (by show (outs a0 zSk cs).length <= 200; omega) g2.m 201 0 (by show (outs a0 zSk cs).length - 0 < 201; omega) (Nat.zero_le _)
 rw [e1]
 simp only [za1]
 have e3 : zb7 ((gpl a0 cs h0 []).1, (gpl a0 cs h0 []).2, (0 : Int)) _ _ _ _ 5 0 = _ := ya7f ((gpl a0 cs h0 []).1, (gpl a0 cs h0 []).2, (0 : Int)) (outs a0 zSk cs) ok g2 5 0 (by omega) (by omega)
 rw [e3]
 simp only [za1, g1, ztv, beq_self_eq_true]
end Go.Proofs
namespace Go.Tm
open Go.RowKit Go.WideShapes Go.ChangeShapes
def aggT (P : Program) (t : TypeId) : Bool := match P.underlying t with
 | some (.struct _) => true
 | _ => false
def mkD (P : Program) (t : TypeId) (l : List D) : D := bif aggT P t then .agg l else l.headD .undef
def zli (P : Program) (chk : TypeId -> Bool) : Nat -> List Field -> Nat -> Bool
 | off, [], tot => Nat.beq off tot
 | off, f :: fs, tot => Nat.beq f.offset off && chk f.type && zli P chk (off + P.cellsOf f.type) fs tot
def zsf (P : Program) : Nat -> TypeId -> Bool
 | 0, _ => false
 | n + 1, t => match P.underlying t with
  | some .bool => true
  | some (.int _) => true
  | some .string => true
  | some (.slice e) => zsf P n e && Nat.blt 0 (P.cellsOf e) && (aggT P e || Nat.beq (P.cellsOf e) 1)
  | some (.struct fs) => zli P (zsf P n) 0 fs.toList (P.cellsOf t)
  | _ => false
def ya0k (p : TypeId -> List D -> Prop) : List TypeId -> List D -> Prop
 | [], l => l = []
 | t :: ts, l => ∃ l1 l2, l = l1 ++ l2 /\ p t l1 /\ ya0k p ts l2
theorem zq0 {C : Cx} : ∀ {l1 l2 : List D} {v1 v2 : List Value}, reps C l1 v1 -> reps C l2 v2 -> reps C (l1 ++ l2) (v1 ++ v2)
 | [], l2, v1, v2, h1, h2 => by simp only [reps] at h1; subst h1; simpa using h2
 | d :: ds, l2, v1, v2, h1, h2 => by
  simp only [reps] at h1
  obtain ⟨v, vs, rfl, hd, h1⟩ := h1
  simp only [zal, reps]
  exact ⟨v, vs ++ v2, rfl, hd, zq0 h1 h2⟩
theorem zyy {C : Cx} {b s : Nat} {p : List D -> Prop} {f : List D -> D} : ∀ (n o : Nat), (∀ i, i < n -> ∃ l v, p l /\ rep C (f l) v /\ v.cells.size = s /\ v.cells.toList.all (·.oneCell') = true /\ C.w.rangeAt b (o + i * s) v.cells.toList) ->
  ∃ xs : List (List D), xs.length = n /\ elems C (xs.map f) b o s /\ ∀ x ∈ xs, p x
 | 0, o, _ => ⟨[], rfl, by simp only [List.map_nil, elems], by simp⟩
 | n + 1, o, h => by
  obtain ⟨l, v, h1, h2, h3, h4, h5⟩ := h 0 (by omega)
  obtain ⟨xs, g1, g2, g3⟩ := zyy n (o + s) (fun i hi => by
   obtain ⟨l, v, h1, h2, h3, h4, h5⟩ := h (i + 1) (by omega)
   exact ⟨l, v, h1, h2, h3, h4, by rwa [show o + (i + 1) * s = o + s + i * s by rw [Nat.add_mul]; omega] at h5⟩)
  refine ⟨l :: xs, by simp [g1], ?_, by simpa using ⟨h1, g3⟩⟩
  simp only [zah, elems]
  exact ⟨⟨v, h2, h3, h4, by simpa using h5⟩, g2⟩
theorem zs7 {P : Program} {chk : TypeId -> Bool} : ∀ (fs : List Field) (off tot : Nat), zli P chk off fs tot = true -> off <= tot
 | [], off, tot, h => Nat.le_of_eq (nb h)
 | f :: fs, off, tot, h => by
  simp only [zli, za0] at h
  have := zs7 fs _ _ h.2
  omega
section
variable {H : Type} {enc : TypeId × Value -> H} {P : Program} {w : World} {sp : Nat -> Bool}
theorem znz (hl : laidOutB P = true) {W W' : World} (hB : Below W.heap.size W W') {sp' : Nat -> Bool} : ∀ {ts : List TypeId} {vs : List Value} {ds : List (DataW H)} {ps : List MemPlace}, (ts.all fun t => P.readableRec t && Nat.blt t P.types.size) = true ->
  DataW.TrodAll enc P W 0 (fun _ => true) true ts vs ds ps -> (∀ p ∈ ps, p.block < W.heap.size /\ sp' p.block = true) -> DataW.TrodAll enc P W' 0 sp' true ts vs ds ps
 | [], [], [], _, _, h, _ => h
 | t :: ts, v :: vs, d :: ds, ps, hr, h, hp => by
  obtain ⟨p, q, h1, h2, rfl⟩ := h
  simp only [List.all_cons, za0] at hr
  refine ⟨p, q, WideElems.Trod_stays hl hr.1.1 (lb hr.1.2) h1 (fun x hx => hB.same (hp x (by simp [hx])).1) (fun x hx => (hp x (by simp [hx])).2), ?_, rfl⟩
  exact znz hl hB hr.2 h2 fun x hx => hp x (by simp [hx])
 | [], _ :: _, _, _, _, h, _ => h.elim
 | [], [], _ :: _, _, _, h, _ => h.elim
 | _ :: _, [], _, _, _, h, _ => h.elim
 | _ :: _, _ :: _, [], _, _, h, _ => h.elim
end
section
variable {P : Program} {n : Nat} {t : TypeId} {l : List D}
theorem zrl {d : D} (ha : aggT P t = false) : mkD P t [d] = d := by simp only [mkD, ha, cond_false, List.headD_cons]
end
end Go.Tm

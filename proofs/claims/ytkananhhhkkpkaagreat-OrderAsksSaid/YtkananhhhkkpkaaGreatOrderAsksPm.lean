/- Texts of the proof. -/
import Derived.Test.YtkananhhhkkpkaaGreatOrderAsksPl
import Derived.Test.YtkananhhhkkpkaaGreatOrderAsksPi
section
namespace Go.Proofs
open Go.Tm
set_option linter.unusedSimpArgs false
theorem zr6 (m : TMessage) : ∀ (l : List Int) (n : Nat), zaf m l n false = some false := by
 intro l
 induction l with
 | nil => intro n; rfl
 | cons y l ih => intro n; rw [zaf]; simpa using ih (n + 1)
theorem zm7.groups {m : TMessage} (h : zm7 m) : m.Groups.length <= 4 := by
 apply Decidable.byContradiction
 intro hc
 unfold zm7 at h
 have e : ((decide ((m.Groups.length : Int) >= 1)) && (decide ((m.Groups.length : Int) <= 4))) = false := by
  rw [Bool.and_eq_false_iff]; right; simp; omega
 rw [zat, e, zr6] at h
 simp [zv5, zrf] at h
theorem zyo (a b : TMessage) : zcz a b = some (decide (a = b)) := by
 rw [zcz, zx7]
 obtain ⟨a1, a2, a3, a4, a5⟩ := a
 obtain ⟨b1, b2, b3, b4, b5⟩ := b
 by_cases h : a1 = b1
 by_cases h2 : a2 = b2 <;> by_cases h3 : a3 = b3 <;> by_cases h4 : a4 = b4 <;> by_cases h5 : a5 = b5 <;> simp [h, h2, h3, h4, h5]
 simp [h]
theorem ya7w (a b : TCommand) : zhq a b = some (decide (a = b)) := by
 rw [zhq, zyo, zx7]
 obtain ⟨a1, a2, a3, a4, a5, a6, a7, a8⟩ := a
 obtain ⟨b1, b2, b3, b4, b5, b6, b7, b8⟩ := b
 by_cases h : a1 = b1
 by_cases h2 : a2 = b2
 by_cases h3 : a3 = b3
 by_cases h4 : a4 = b4
 by_cases h5 : a5 = b5 <;> by_cases h6 : a6 = b6 <;> by_cases h7 : a7 = b7 <;> by_cases h8 : a8 = b8 <;> simp [h, h2, h3, h4, h5, h6, h7, h8]
 simp [h, h2, h3, h4]
 simp [h, h2, h3]
 simp [h, h2]
 simp [h]
theorem zz4 (c : TCommand) : ∃ p ok, zey c = some (p, ok) /\ (c.Kind = 1 -> ok = true -> zm7 c.Message) /\ (c.Kind = 2 -> ok = true -> IdOk c.Id /\ 1 <= c.Time /\ c.Time <= 1073741824) := by
 rw [zey, zv5]
 simp only [Option.bind_some]
 obtain ⟨v2, h2⟩ : ∃ v2, (if decide (IdOk c.Id) = true then zdu c.Topic 0 3 else some default) = some v2 := by split <;> exact ⟨_, by first | exact zrf _ _ _ | rfl⟩
 rw [h2]
 simp only [Option.bind_some]
 obtain ⟨v3, h3⟩ : ∃ v3, (if decide (IdOk c.Id) = true /\ v2 = true then zdu c.N 0 1073741824 else some default) = some v3 := by split <;> exact ⟨_, by first | exact zrf _ _ _ | rfl⟩
 rw [h3]
 simp only [Option.bind_some]
 by_cases k0 : c.Kind = 0
 rw [if_pos k0]; exact ⟨_, _, rfl, by intro h; omega, by intro h; omega⟩
 rw [if_neg k0]
 by_cases k1 : c.Kind = 1
 rw [if_pos k1]
 obtain ⟨e, he⟩ := (zvq c.Message).1
 rw [he]
 exact ⟨_, _, rfl, fun _ h => by rw [zm7, he]; simp at h; rw [h], by intro h; omega⟩
 rw [if_neg k1]
 by_cases k2 : c.Kind = 2
 rw [if_pos k2]
 by_cases hi : IdOk c.Id
 simp only [hi, decide_true, if_true, Option.bind_some, zrf]
 exact ⟨_, _, rfl, by intro h; omega, fun _ h => ⟨trivial, by simpa using h⟩⟩
 simp only [hi, decide_false, Bool.false_eq_true, if_false, Option.bind_some]
 exact ⟨_, _, rfl, by intro h; omega, fun _ h => by simp at h⟩
 rw [if_neg k2]
 by_cases k3 : c.Kind = 3
 rw [if_pos k3, zug]
 exact ⟨_, _, rfl, by intro h; omega, by intro h; omega⟩
 rw [if_neg k3]
 by_cases k4 : c.Kind = 4
 rw [if_pos k4]
 obtain ⟨v8, h8⟩ : ∃ v8, (if (decide (IdOk c.Id) = true /\ v2 = true) /\ v3 = true then zdu c.Who 0 7 else some default) = some v8 := by split <;> exact ⟨_, by first | exact zrf _ _ _ | rfl⟩
 rw [h8]
 exact ⟨_, _, rfl, by intro h; omega, by intro h; omega⟩
 rw [if_neg k4]
 by_cases k5 : c.Kind = 5
 rw [if_pos k5]
 simp only [Option.bind_some, k5]
 exact ⟨_, _, rfl, by intro h; omega, by intro h; omega⟩
 rw [if_neg k5]
 simp only [Option.bind_some]
 by_cases k6 : (c.Kind == 6) = true
 rw [if_pos k6]; exact ⟨_, _, rfl, by intro h; omega, by intro h; omega⟩
 rw [if_neg k6]; exact ⟨_, _, rfl, by intro h; omega, by intro h; omega⟩
theorem zu0 (c : TCommand) : ∃ e, zc3 c = some e /\ (e = 0 -> (c.Kind = 1 -> zm7 c.Message) /\ (c.Kind = 2 -> IdOk c.Id /\ 1 <= c.Time /\ c.Time <= 1073741824)) := by
 obtain ⟨p, ok, h, h1, h2⟩ := zz4 c
 rw [zc3, h]
 simp only [Option.bind_some, ya7w]
 cases ok with
 | false => exact ⟨120, by simp, by intro h; cases h⟩
 | true =>
  simp only [not_true_eq_false, not_false_eq_true, if_true, Option.bind_some, false_or]
  split
  exact ⟨120, rfl, by intro h; cases h⟩
  exact ⟨0, rfl, fun _ => ⟨fun k => h1 k rfl, fun k => h2 k rfl⟩⟩
theorem zry (l : List Int) (h : l.length * 8 <= 140737488355328) : zdd l = some l := by rw [zdd, if_pos h]
theorem zyi (v : List TWait) (hv : v.length < 1000000) : ∀ (fu k : Nat) (l : List TWait), l.length = v.length -> v.length - k < fu -> k <= v.length -> (∀ w ∈ l, w.Message.Groups.length * 8 <= 140737488355328) -> zdt v fu l (k : Int) = some l := by
 intro fu
 induction fu with
 | zero => intro k l _ h; omega
 | succ fu ih =>
  intro k l hl h hk hg
  rw [zdt]
  by_cases hlt : k < v.length
  have hk' : k < l.length := by omega
  have hgd : l.getD (k : Int).toNat default = l[k] := by simp [List.getD, List.getElem?_eq_getElem hk']
  have hw : wr .i64 ((k : Int) + 1) = ((k + 1 : Nat) : Int) := zju _ _ (by show (-9223372036854775808 : Int) <= _; omega) (by show _ <= (9223372036854775807 : Int); omega)
  rw [if_pos (by omega), if_pos (by omega), hgd, zry _ (hg _ (List.getElem_mem hk'))]
  simp only [Option.bind_some]
  have e : l.set (k : Int).toNat l[k] = l := by rw [Int.toNat_natCast]; simp
  rw [if_pos (by omega)]
  show zdt v fu (l.set (k : Int).toNat l[k]) (wr .i64 ((k : Int) + 1)) = _
  rw [e, hw]
  exact ih (k + 1) l hl (by omega) (by omega) hg
  rw [if_neg (by omega), if_pos (by omega)]
theorem zt5 (s : TSkeen) (h1 : s.Waits.length <= 1000) (h2 : s.Done.length <= 1000) (h3 : ∀ w ∈ s.Waits, w.Message.Groups.length * 8 <= 140737488355328) : ze8 s = some s := by
 rw [ze8, zf2, if_pos (by omega), zel, if_pos (by omega)]
 simp only [Option.bind_some]
 have := zyi s.Waits (by omega) (s.Waits.length + 1) 0 s.Waits rfl (by omega) (by omega) h3
 rw [show ((0 : Nat) : Int) = 0 from rfl] at this
 rw [this]
 rfl
structure J (c : Int) (W : List TWait) (D : List TStamp) : Prop where
 c1 : c <= 1073741824
 d : DOk c D
 w : WOk c D W
theorem V.j {s : TSkeen} (h : V s) : J s.Clock s.Waits s.Done := ⟨h.c1, h.d, h.w⟩
theorem J.ids {c : Int} {W : List TWait} {D : List TStamp} (h : J c W D) : ∀ w ∈ W, IdOk w.Message.Id := fun w hw => (h.w.1 w hw).1.id
theorem J.mono {c c' : Int} {W : List TWait} {D : List TStamp} (h : J c W D) (h1 : c <= c') (h2 : c' <= 1073741824) : J c' W D :=
 ⟨h2, ⟨fun x hx => by have := h.d.1 x hx; exact ⟨this.1, this.2.1, by omega⟩, h.d.2⟩, ⟨fun w hw => by have := h.w.1 w hw; exact ⟨this.1, this.2.1, by have := this.2.2.1; omega, this.2.2.2⟩, h.w.2⟩⟩
theorem zq5 {W : List TWait} (hu : zme W) {a b : TWait} (ha : a ∈ W) (hb : b ∈ W) (h : a.Message.Id = b.Message.Id) : a = b := by
 obtain ⟨i, hi, rfl⟩ := List.getElem_of_mem ha
 obtain ⟨j, hj, rfl⟩ := List.getElem_of_mem hb
 rcases Nat.lt_trichotomy i j with hh | hh | hh
 have := List.pairwise_iff_getElem.1 hu i j hi hj hh; omega
 subst hh; rfl
 have := List.pairwise_iff_getElem.1 hu j i hj hi hh; omega
theorem ztw (s : TSkeen) (id t : Int) (hl : s.Waits.length < 1000000) (hj : J s.Clock s.Waits s.Done) (hi : IdOk id) :
  (zce ⟨s⟩ id t = some ⟨s⟩ /\ ∀ w ∈ s.Waits, w.Message.Id = id -> w.Final = true \/ t < w.Time) \/
  ∃ (k : Nat) (hk : k < s.Waits.length), s.Waits[k].Message.Id = id /\ s.Waits[k].Final = false /\ s.Waits[k].Time <= t /\ zce ⟨s⟩ id t = some ⟨⟨max s.Clock t, s.Waits.set k ⟨s.Waits[k].Message, t, true⟩, s.Done⟩⟩ := by
 rw [zce, zrp ⟨s⟩ id hl hj.w.2 hj.ids hi]
 simp only [Option.bind_some]
 have hp := zr4 id s.Waits hj.w.2
 by_cases hx : ∃ w ∈ s.Waits, w.Message.Id = id
 obtain ⟨hk, he⟩ := hp.1 hx
 have hgd : s.Waits.getD ((plc id s.Waits : Nat) : Int).toNat default = s.Waits[plc id s.Waits] := by rw [Int.toNat_natCast]; simp [List.getD, List.getElem?_eq_getElem hk]
 have hgd2 : ∀ x : TWait, (s.Waits.set ((plc id s.Waits : Nat) : Int).toNat x).getD ((plc id s.Waits : Nat) : Int).toNat default = x := by
  intro x; rw [Int.toNat_natCast]; simp [List.getD, hk]
 simp only [hx, decide_true, not_true_eq_false, not_false_eq_true, false_or, hgd, hgd2]
 rw [if_pos (by intro _; omega), if_pos (by intro _; omega)]
 by_cases hf : s.Waits[plc id s.Waits].Final = true \/ t < s.Waits[plc id s.Waits].Time
 left
 rw [if_pos hf]
 refine ⟨rfl, fun w hw hid => ?_⟩
 have := zq5 hj.w.2 hw (List.getElem_mem hk) (hid.trans he.symm)
 rw [this]; exact hf
 right
 rw [if_neg hf, if_pos (by omega), if_pos (by simp only [List.length_set]; omega)]
 refine ⟨plc id s.Waits, hk, he, ?_, by omega, ?_⟩
 cases hq : s.Waits[plc id s.Waits].Final with
 | false => rfl
 | true => exact absurd (.inl hq) hf
 rw [Int.toNat_natCast, List.set_set]
 left
 have hx' : ∀ w ∈ s.Waits, w.Message.Id ≠ id := fun w hw he => hx ⟨w, hw, he⟩
 simp only [hx, decide_false, Bool.false_eq_true, not_false_eq_true, not_true_eq_false, false_implies, if_true, true_or]
 exact ⟨trivial, fun w hw he => absurd he (hx' w hw)⟩
theorem J.set {c t : Int} {W : List TWait} {D : List TStamp} (h : J c W D) (k : Nat) (hk : k < W.length) (h1 : W[k].Time <= t) (h2 : t <= 1073741824) : J (max c t) (W.set k ⟨W[k].Message, t, true⟩) D := by
 have h' := h.mono (c' := max c t) (Int.le_max_left _ _) (by have := h.c1; omega)
 refine ⟨h'.c1, h'.d, fun w hw => ?_, ?_⟩
 rcases List.mem_or_eq_of_mem_set hw with hw | rfl
 exact h'.w.1 w hw
 have hm := h'.w.1 _ (List.getElem_mem hk)
 refine ⟨hm.1, by have := hm.2.1; show 1 <= t; omega, Int.le_max_right _ _, hm.2.2.2.1, fun x hx => ?_⟩
 have hl := hm.2.2.2.2 x hx
 show ltS x ⟨t, W[k].Message.Id⟩
 unfold ltS stW at *
 simp only at hl ⊢
 omega
 have hu := h.w.2
 unfold zme at hu ⊢
 rw [<- List.pairwise_map (f := fun w : TWait => w.Message.Id) (R := fun a b => a < b)] at hu ⊢
 rw [List.map_set]
 have : (W.map fun w : TWait => w.Message.Id).set k W[k].Message.Id = W.map fun w : TWait => w.Message.Id := by
  apply List.ext_getElem
  simp
  intro i h1 h2
  rw [List.getElem_set]
  split
  rename_i e; subst e; simp
  rfl
 rw [this]
 exact hu
theorem ya08 (s : TSkeen) (g : Int) (m : TMessage) (hl : s.Waits.length <= 200) (hc0 : 0 <= s.Clock) (hj : J s.Clock s.Waits s.Done) (hm : zm7 m) :
  (∃ e, zaq ⟨s⟩ g m = some (e, ⟨s⟩)) \/
  (g ∈ m.Groups /\ s.Clock < 1073741824 /\ s.Waits.length < 200 /\ (∀ x ∈ s.Done, x.Id ≠ m.Id) /\ (∀ w ∈ s.Waits, w.Message.Id ≠ m.Id) /\
   zaq ⟨s⟩ g m = some (0, ⟨⟨s.Clock + 1, s.Waits.take (plc m.Id s.Waits) ++ ⟨m, s.Clock + 1, false⟩ :: s.Waits.drop (plc m.Id s.Waits), s.Done⟩⟩)) := by
 rw [zaq, zrp ⟨s⟩ m.Id (by show s.Waits.length < 1000000; omega) hj.w.2 hj.ids hm.id, ya01]
 simp only [Option.bind_some]
 by_cases hx : ∃ w ∈ s.Waits, w.Message.Id = m.Id
 left
 simp only [hx, decide_true, not_true_eq_false, if_false, true_or, Option.bind_some, if_true]
 exact ⟨0, rfl⟩
 have hx' : ∀ w ∈ s.Waits, w.Message.Id ≠ m.Id := fun w hw he => hx ⟨w, hw, he⟩
 simp only [hx, decide_false, Bool.false_eq_true, not_false_eq_true, if_true, false_or, Option.bind_some]
 cases hd : s.Done.any fun x => x.Id == m.Id with
 | true =>
  left
  simp only [not_true_eq_false, if_false, Option.bind_some, true_or, if_true]
  exact ⟨0, rfl⟩
 | false =>
  have hd' : ∀ x ∈ s.Done, x.Id ≠ m.Id := by
   intro x hxd he
   have := List.any_eq_false.1 hd x hxd
   simp [he] at this
  have hg := zrx m.Groups g
  simp only [Bool.false_eq_true, not_false_eq_true, if_true, false_or, Option.bind_some, hg]
  by_cases hgm : g ∈ m.Groups
  simp only [hgm, decide_true, not_true_eq_false, if_false]
  by_cases hfull : s.Clock = 1073741824 \/ (s.Waits.length : Int) = 200
  left; rw [if_pos hfull]; exact ⟨9, rfl⟩
  right
  have hc1 := hj.c1
  rw [if_neg hfull, zry _ (by have := hm.groups; omega)]
  simp only [Option.bind_some]
  have hple := zso m.Id s.Waits
  rw [if_pos (by omega), if_pos (by omega), zju _ _ (by show (-9223372036854775808 : Int) <= _; omega) (by show _ <= (9223372036854775807 : Int); omega), Int.toNat_natCast]
  exact ⟨trivial, by omega, by omega, hd', hx', rfl⟩
  left
  simp only [hgm, decide_false, Bool.false_eq_true, not_false_eq_true, if_true]
  exact ⟨0, rfl⟩
theorem J.ins {c : Int} {W : List TWait} {D : List TStamp} (h : J c W D) (m : TMessage) (hm : zm7 m) (h0 : 0 <= c) (h1 : c < 1073741824) (hD : ∀ x ∈ D, x.Id ≠ m.Id) (hW : ∀ w ∈ W, w.Message.Id ≠ m.Id) :
  J (c + 1) (W.take (plc m.Id W) ++ ⟨m, c + 1, false⟩ :: W.drop (plc m.Id W)) D := by
 have h' := h.mono (c' := c + 1) (by omega) (by omega)
 refine ⟨h'.c1, h'.d, fun w hw => ?_, ?_⟩
 have : w = ⟨m, c + 1, false⟩ \/ w ∈ W := by
  rcases List.mem_append.1 hw with hw | hw
  exact .inr (List.mem_of_mem_take hw)
  rcases List.mem_cons.1 hw with hw | hw
  exact .inl hw
  exact .inr (List.mem_of_mem_drop hw)
 rcases this with rfl | hw
 refine ⟨hm, by show 1 <= c + 1; omega, Int.le_refl _, hD, fun x hx => ?_⟩
 have := (h.d.1 x (List.mem_of_getLast? hx)).2.2
 exact .inl (by show x.Time < c + 1; omega)
 exact h'.w.1 w hw
 have hu := h.w.2
 have hlt := zwp m.Id W hu
 have hple := zso m.Id W
 have t1 : ∀ w ∈ W.take (plc m.Id W), w.Message.Id < m.Id := by
  intro w hw
  obtain ⟨i, hi, rfl⟩ := List.getElem_of_mem hw
  rw [List.getElem_take]
  have : i < plc m.Id W := by simp at hi; omega
  exact (hlt i (by omega)).2 this
 have t2 : ∀ w ∈ W.drop (plc m.Id W), m.Id < w.Message.Id := by
  intro w hw
  have hwW := List.mem_of_mem_drop hw
  obtain ⟨i, hi, rfl⟩ := List.getElem_of_mem hw
  have hne := hW _ hwW
  rw [List.getElem_drop] at hne ⊢
  have hi' : plc m.Id W + i < W.length := by simp at hi; omega
  have : ¬ W[plc m.Id W + i].Message.Id < m.Id := fun k => by have := (hlt _ hi').1 k; omega
  omega
 unfold zme
 rw [List.pairwise_append]
 refine ⟨hu.sublist (List.take_sublist _ _), List.pairwise_cons.2 ⟨t2, hu.sublist (List.drop_sublist _ _)⟩, fun a ha b hb => ?_⟩
 have ha' := t1 a ha
 rcases List.mem_cons.1 hb with rfl | hb
 exact ha'
 have := t2 b hb; omega
theorem zxd (c0 : Tskeen_clock) (c : Int) : ∀ (fu : Nat) (W : List TWait) (D : List TStamp) (M : List TMessage), W.length < fu -> J c W D -> W.length + D.length <= 1000 -> M.length + W.length <= 1000 ->
  ∃ (ws W' : List TWait), zad c0 fu W D M = some (W', D ++ ws.map stW, M ++ ws.map TWait.Message) /\ J c W' (D ++ ws.map stW) /\ (∀ y l, W' = y :: l -> (minW y l).Final = false) /\
   (∀ w ∈ ws, w ∈ W /\ w.Final = true) /\ (∀ w ∈ W', w ∈ W) /\ (∀ w ∈ W, w ∈ W' \/ w ∈ ws) /\ W'.length + ws.length = W.length := by
 intro fu
 induction fu with
 | zero => intro W D M h; omega
 | succ fu ih =>
  intro W D M h hj h1 h2
  rw [zad]
  cases hW : W with
  | nil =>
   refine ⟨[], [], by simp, by subst hW; simpa using hj, by simp, by simp, by simp, by simp, rfl⟩
  | cons y l =>
   rw [if_pos (by simp only [List.length_cons]; omega), zvr y l (by rw [hW] at h1; simp at h1; omega)]
   simp only [Option.bind_some]
   have hmem : minW y l ∈ W := by
    rw [hW]
    rcases ztn l y with hh | hh
    rw [hh]; simp
    exact List.mem_cons_of_mem _ hh
   by_cases hf : (minW y l).Final = true
   rw [if_neg (by simp [hf])]
   have hfd := zrp ⟨⟨c0.Skeen.Clock, W, D⟩⟩ (minW y l).Message.Id (by show W.length < 1000000; omega) hj.w.2 hj.ids (hj.ids _ hmem)
   rw [<- hW, hfd]
   simp only [Option.bind_some]
   obtain ⟨hk, he⟩ := (zr4 (minW y l).Message.Id W hj.w.2).1 ⟨_, hmem, rfl⟩
   generalize hK : plc (minW y l).Message.Id W = K at hk he
   have hat : W[K] = minW y l := zq5 hj.w.2 (List.getElem_mem hk) hmem he
   rw [if_pos (by omega), if_pos (by omega)]
   have e1 : zfr (minW y l) = some (stW (minW y l)) := rfl
   rw [e1]
   simp only [Option.bind_some, List.length_cons, List.length_nil, Int.toNat_natCast]
   have hWl : W.length = l.length + 1 := by rw [hW]; simp
   rw [if_pos (by omega), if_pos (by omega)]
   have hv := hj.w.1 _ hmem
   have hsub : ∀ w ∈ W.eraseIdx K, w ∈ W := fun w hw => List.mem_of_mem_eraseIdx hw
   have hne : ∀ w ∈ W.eraseIdx K, w.Message.Id ≠ (minW y l).Message.Id := by
    intro w hw hid
    obtain ⟨i, hi, hik, rfl⟩ := List.mem_eraseIdx_iff_getElem.1 hw
    have e2 := zq5 hj.w.2 (List.getElem_mem hi) hmem hid
    rw [<- hat] at hid
    rcases Nat.lt_or_gt_of_ne hik with hh | hh
    have := List.pairwise_iff_getElem.1 hj.w.2 i K hi hk hh; omega
    have := List.pairwise_iff_getElem.1 hj.w.2 K i hk hi hh; omega
   have hle : ∀ w ∈ W, ¬ ltS (stW w) (stW (minW y l)) := by
    intro w hw
    rw [hW] at hw
    rcases List.mem_cons.1 hw with rfl | hw
    exact (zrb l _).1
    exact (zrb l y).2 w hw
   have hid := hv.1.id
   have hJ : J c (W.eraseIdx K) (D ++ [stW (minW y l)]) := by
    refine ⟨hj.c1, (hj.d.snoc _).2 ⟨⟨⟨?_, ?_, hid.1, ?_⟩, hv.2.1, hv.2.2.1⟩, hv.2.2.2.2, fun hm => ?_⟩, fun w hw => ?_, hj.w.2.sublist (List.eraseIdx_sublist _ _)⟩
    have := hv.2.1; show 0 <= (minW y l).Time; omega
    have := hv.2.2.1; have := hj.c1; show (minW y l).Time <= 1073741824; omega
    have := hid.2; show (minW y l).Message.Id < 6291456; omega
    obtain ⟨x, hx, he2⟩ := List.mem_map.1 hm
    exact hv.2.2.2.1 x hx he2
    have hw1 := hj.w.1 w (hsub w hw)
    refine ⟨hw1.1, hw1.2.1, hw1.2.2.1, fun x hx => ?_, fun x hx => ?_⟩
    rcases List.mem_append.1 hx with hx | hx
    exact hw1.2.2.2.1 x hx
    simp at hx; subst hx; exact fun e => hne w hw e.symm
    simp at hx; subst hx
    exact zup (fun e => hne w hw e.symm) (hle w (hsub w hw))
   have hlen : (W.eraseIdx K).length = W.length - 1 := List.length_eraseIdx_of_lt hk
   obtain ⟨ws, W', g1, g2, g3, g4, g5, g6, g7⟩ := ih (W.eraseIdx K) (D ++ [stW (minW y l)]) (M ++ [(minW y l).Message]) (by omega) hJ (by simp; omega) (by simp; omega)
   refine ⟨minW y l :: ws, W', ?_, ?_, g3, ?_, ?_, ?_, ?_⟩
   rw [g1]; simp
   simpa using g2
   intro w hw
   rcases List.mem_cons.1 hw with rfl | hw
   exact ⟨hmem, hf⟩
   exact ⟨hsub w (g4 w hw).1, (g4 w hw).2⟩
   intro w hw; exact hsub w (g5 w hw)
   intro w hw
   by_cases hwv : w = minW y l
   right; simp [hwv]
   have : w ∈ W.eraseIdx K := by
    obtain ⟨i, hi, rfl⟩ := List.getElem_of_mem hw
    exact List.mem_eraseIdx_iff_getElem.2 ⟨i, hi, fun e => hwv (by subst e; exact hat), rfl⟩
   rcases g6 w this with hh | hh
   exact .inl hh
   exact .inr (List.mem_cons_of_mem _ hh)
   simp only [List.length_cons]; omega
   rw [if_pos (by simpa using hf)]
   refine ⟨[], W, by simp [hW], by simpa using hj, fun y' l' hh => ?_, by simp, by intro w hw; rw [<- hW]; exact hw, by intro w hw; left; rw [hW]; exact hw, by simp [hW]⟩
   rw [hW] at hh; cases hh; simpa using hf
def Step (s : TSkeen) (g : Int) (c : TCommand) (W : List TWait) (ck : Int) : Prop :=
 (W = s.Waits /\ ck = s.Clock) \/
 (c.Kind = 1 /\ g ∈ c.Message.Groups /\ ck = s.Clock + 1 /\ W = s.Waits.take (plc c.Message.Id s.Waits) ++ ⟨c.Message, s.Clock + 1, false⟩ :: s.Waits.drop (plc c.Message.Id s.Waits)) \/
 (c.Kind = 2 /\ ck = max s.Clock c.Time /\ ∃ (k : Nat) (hk : k < s.Waits.length), s.Waits[k].Message.Id = c.Id /\ s.Waits[k].Final = false /\ s.Waits[k].Time <= c.Time /\ W = s.Waits.set k ⟨s.Waits[k].Message, c.Time, true⟩)
def zSk : TSkeen := ⟨0, [], []⟩
theorem zu1 {s : TSkeen} (h : V s) : zhg s = some 0 := by
 obtain ⟨e, he, hi⟩ := ya0i s
 rw [he, hi.2 h]
theorem zxh (s : TSkeen) (g : Int) (c : TCommand) (h : V s) :
  (∃ e, e ≠ 0 /\ zd3 s g c = some (zSk, [], e) /\ (0 <= g /\ g < 4 -> zc3 c = some 0 -> c.Kind = 2 -> s.Waits.length + s.Done.length > 200)) \/
  ∃ (W : List TWait) (ck : Int) (ws W' : List TWait), Step s g c W ck /\ zd3 s g c = some (⟨ck, W', s.Done ++ ws.map stW⟩, ws.map TWait.Message, 0) /\ V ⟨ck, W', s.Done ++ ws.map stW⟩ /\ s.Clock <= ck /\ 
   (∀ w ∈ ws, w ∈ W /\ w.Final = true) /\ (∀ w ∈ W', w ∈ W) /\ (∀ w ∈ W, w ∈ W' \/ w ∈ ws) /\ W'.length + ws.length = W.length /\ 
   (c.Kind = 2 -> ∀ w ∈ s.Waits, w.Message.Id = c.Id -> w.Final = false -> w.Time <= c.Time -> ∃ (k : Nat) (hk : k < s.Waits.length), s.Waits[k] = w /\ W = s.Waits.set k ⟨w.Message, c.Time, true⟩) := by
 have hj := h.j
 have hlw := h.lw
 have hld := h.ld
 rw [zd3, zu1 h]
 simp only [Option.bind_some, not_true_eq_false, if_false]
 by_cases hg : g < 0 \/ g >= 4
 rw [if_pos hg]
 exact .inl ⟨2, by omega, rfl, by intro h; omega⟩
 rw [if_neg hg]
 obtain ⟨e, he, hc⟩ := zu0 c
 rw [he]
 simp only [Option.bind_some]
 by_cases he0 : e = 0
 case neg => rw [if_pos he0]; exact .inl ⟨e, he0, rfl, by intro _ h; exact absurd (sj h) he0⟩
 obtain ⟨hc1, hc2⟩ := hc he0
 have htw : ze8 s = some s := zt5 s (by omega) (by omega) (fun w hw => by have := (hj.w.1 w hw).1.groups; omega)
 rw [if_neg (by omega), htw]
 simp only [Option.bind_some]
 -- the end: what is delivered
 have fin : ∀ (W : List TWait) (ck : Int), J ck W s.Done -> 0 <= ck -> W.length <= 200 -> ∃ (ws W' : List TWait), zc7 ⟨⟨ck, W, s.Done⟩⟩ = some (ws.map TWait.Message, ⟨⟨ck, W', s.Done ++ ws.map stW⟩⟩) /\
   ((s.Done ++ ws.map stW).length <= 200 -> V ⟨ck, W', s.Done ++ ws.map stW⟩) /\ (∀ w ∈ ws, w ∈ W /\ w.Final = true) /\ (∀ w ∈ W', w ∈ W) /\ (∀ w ∈ W, w ∈ W' \/ w ∈ ws) /\ W'.length + ws.length = W.length := by
  intro W ck hJ h0 hl
  obtain ⟨ws, W', g1, g2, g3, g4, g5, g6, g7⟩ := zxd ⟨⟨ck, W, s.Done⟩⟩ ck (W.length + 1) W s.Done [] (by omega) hJ (by omega) (by simp; omega)
  refine ⟨ws, W', ?_, fun hd => ⟨h0, g2.c1, by show W'.length <= 200; omega, hd, g2.d, g2.w, g3⟩, g4, g5, g6, g7⟩
  rw [zc7, g1]
  simp
 by_cases k1 : c.Kind = 1
 rw [if_pos k1]
 rcases ya08 s g c.Message hlw h.c0 hj (hc1 k1) with ⟨e2, ha⟩ | ⟨a1, a2, a3, a4, a5, ha⟩
 have ha' : zaq ⟨s⟩ g c.Message = _ := ha
 rw [ha']
 simp only [Option.bind_some]
 by_cases he2 : e2 = 0
 rw [if_neg (by omega)]
 simp only [Option.bind_some]
 obtain ⟨ws, W', d1, d2, d3, d4, d5, d6⟩ := fin s.Waits s.Clock hj h.c0 hlw
 rw [d1]
 simp only [Option.bind_some]
 by_cases hfull : ((s.Done ++ ws.map stW).length : Int) > 200
 rw [if_pos hfull]; exact .inl ⟨9, by omega, rfl, by intro _ _ h; omega⟩
 rw [if_neg hfull]
 exact .inr ⟨s.Waits, s.Clock, ws, W', .inl ⟨rfl, rfl⟩, rfl, d2 (by omega), Int.le_refl _, d3, d4, d5, d6, by intro h; omega⟩
 rw [if_pos he2]
 exact .inl ⟨e2, he2, rfl, by intro _ _ h; omega⟩
 have ha' : zaq ⟨s⟩ g c.Message = _ := ha
 rw [ha']
 simp only [Option.bind_some, not_true_eq_false, if_false]
 have hpl := zso c.Message.Id s.Waits
 obtain ⟨ws, W', d1, d2, d3, d4, d5, d6⟩ := fin _ _ (hj.ins c.Message (hc1 k1) h.c0 a2 a4 a5) (by have := h.c0; omega) (by simp; omega)
 rw [d1]
 simp only [Option.bind_some]
 by_cases hfull : ((s.Done ++ ws.map stW).length : Int) > 200
 rw [if_pos hfull]; exact .inl ⟨9, by omega, rfl, by intro _ _ h; omega⟩
 rw [if_neg hfull]
 exact .inr ⟨_, s.Clock + 1, ws, W', .inr (.inl ⟨k1, a1, rfl, rfl⟩), rfl, d2 (by omega), by omega, d3, d4, d5, d6, by intro h; omega⟩
 rw [if_neg k1]
 by_cases k2 : c.Kind = 2
 rw [if_pos k2]
 obtain ⟨i1, i2, i3⟩ := hc2 k2
 rcases ztw s c.Id c.Time (by omega) hj i1 with ⟨hf, hno⟩ | ⟨k, hk, b1, b2, b3, hf⟩
 have hf' : zce ⟨s⟩ c.Id c.Time = _ := hf
 rw [hf']
 simp only [Option.bind_some]
 obtain ⟨ws, W', d1, d2, d3, d4, d5, d6⟩ := fin s.Waits s.Clock hj h.c0 hlw
 rw [d1]
 simp only [Option.bind_some]
 by_cases hfull : ((s.Done ++ ws.map stW).length : Int) > 200
 rw [if_pos hfull]
 refine .inl ⟨9, by omega, rfl, fun _ _ _ => ?_⟩
 simp at hfull; omega
 rw [if_neg hfull]
 refine .inr ⟨s.Waits, s.Clock, ws, W', .inl ⟨rfl, rfl⟩, rfl, d2 (by omega), Int.le_refl _, d3, d4, d5, d6, fun _ w hw hid hfn ht => ?_⟩
 rcases hno w hw hid with hh | hh
 rw [hfn] at hh; cases hh
 omega
 have hf' : zce ⟨s⟩ c.Id c.Time = _ := hf
 rw [hf']
 simp only [Option.bind_some]
 obtain ⟨ws, W', d1, d2, d3, d4, d5, d6⟩ := fin _ _ (hj.set k hk b3 i3) (by have := h.c0; have := Int.le_max_left s.Clock c.Time; omega) (by simpa using hlw)
 rw [d1]
 simp only [Option.bind_some]
 by_cases hfull : ((s.Done ++ ws.map stW).length : Int) > 200
 rw [if_pos hfull]
 refine .inl ⟨9, by omega, rfl, fun _ _ _ => ?_⟩
 simp at hfull d6; omega
 rw [if_neg hfull]
 refine .inr ⟨_, max s.Clock c.Time, ws, W', .inr (.inr ⟨k2, rfl, k, hk, b1, b2, b3, rfl⟩), rfl, d2 (by omega), Int.le_max_left _ _, d3, d4, d5, d6, fun _ w hw hid hfn ht => ?_⟩
 have := zq5 hj.w.2 hw (List.getElem_mem hk) (hid.trans b1.symm)
 exact ⟨k, hk, this.symm, by rw [this]⟩
 rw [if_neg k2]
 simp only [Option.bind_some]
 obtain ⟨ws, W', d1, d2, d3, d4, d5, d6⟩ := fin s.Waits s.Clock hj h.c0 hlw
 rw [d1]
 simp only [Option.bind_some]
 by_cases hfull : ((s.Done ++ ws.map stW).length : Int) > 200
 rw [if_pos hfull]; exact .inl ⟨9, by omega, rfl, by intro _ _ h; omega⟩
 rw [if_neg hfull]
 exact .inr ⟨s.Waits, s.Clock, ws, W', .inl ⟨rfl, rfl⟩, rfl, d2 (by omega), Int.le_refl _, d3, d4, d5, d6, by intro h; omega⟩
end Go.Proofs
end
section
namespace Go.Proofs
open Go.Tm
set_option linter.unusedSimpArgs false
set_option linter.unusedVariables false
theorem zpy (x : Int) (h : -9000000000000000000 <= x /\ x <= 9000000000000000000) : wr .i64 x = x := zju _ _ (by show (-9223372036854775808 : Int) <= _; omega) (by show _ <= (9223372036854775807 : Int); omega)
theorem ztc (b : List Int) : ∀ (l : List Int) (n : Nat), n + l.length = b.length -> zaz b l n = some (if l = b.drop n then .inr () else .inl false) := by
 intro l
 induction l with
 | nil => intro n h; simp [zaz]; simp at h; omega
 | cons y l ih =>
  intro n h
  simp only [List.length_cons] at h
  have hn : n < b.length := by omega
  have hg : b.getD n default = b[n] := by simp [List.getD, List.getElem?_eq_getElem hn]
  have hd := List.drop_eq_getElem_cons hn
  rw [zaz, if_pos hn, hg]
  generalize b[n] = z at hd
  rw [hd]
  by_cases hy : y = z
  rw [if_neg (by simpa using hy), ih (n + 1) (by omega)]
  simp only [hy, List.cons.injEq, true_and]
  rw [if_pos hy]
  simp only [hy, List.cons.injEq, false_and, if_false]
theorem zqn (a b : List Int) : zd6 a b = some (decide (a = b)) := by
 rw [zd6]
 by_cases h : (a.length : Int) = (b.length : Int)
 rw [if_neg (by simpa using h), ztc b a 0 (by omega), List.drop_zero]
 by_cases hab : a = b <;> simp [hab]
 rw [if_pos h]
 have : a ≠ b := fun hh => h (by rw [hh])
 simp [this]
theorem zp0 (a b : TMessage) : zb2 a b = some (decide (a = b)) := by
 rw [zb2, zqn]
 obtain ⟨a1, a2, a3, a4, a5⟩ := a
 obtain ⟨b1, b2, b3, b4, b5⟩ := b
 by_cases h : a1 = b1
 by_cases h2 : a2 = b2 <;> by_cases h3 : a3 = b3 <;> by_cases h4 : a4 = b4 <;> by_cases h5 : a5 = b5 <;> simp [h, h2, h3, h4, h5]
 simp [h]
theorem ya2s (b : List TStamp) : ∀ (l : List TStamp) (n : Nat), n + l.length = b.length -> zar b l n = some (if l = b.drop n then .inr () else .inl false) := by
 intro l
 induction l with
 | nil => intro n h; simp [zar]; simp at h; omega
 | cons y l ih =>
  intro n h
  simp only [List.length_cons] at h
  have hn : n < b.length := by omega
  have hg : b.getD n default = b[n] := by simp [List.getD, List.getElem?_eq_getElem hn]
  have hd := List.drop_eq_getElem_cons hn
  rw [zar, if_pos hn, hg]
  generalize b[n] = z at hd
  rw [hd]
  have he : (y.Time = z.Time /\ y.Id = z.Id) ↔ y = z := by
   obtain ⟨y1, y2⟩ := y; obtain ⟨z1, z2⟩ := z; simp
  by_cases hy : y = z
  rw [if_neg (by rw [he]; simpa using hy), ih (n + 1) (by omega)]
  simp only [hy, List.cons.injEq, true_and]
  rw [if_pos (by rw [he]; exact hy)]
  simp only [hy, List.cons.injEq, false_and, if_false]
theorem ya6v (a b : List TStamp) : zcs a b = some (decide (a = b)) := by
 rw [zcs]
 by_cases h : (a.length : Int) = (b.length : Int)
 rw [if_neg (by simpa using h), ya2s b a 0 (by omega), List.drop_zero]
 by_cases hab : a = b <;> simp [hab]
 rw [if_pos h]
 have : a ≠ b := fun hh => h (by rw [hh])
 simp [this]
end Go.Proofs
end
section
namespace Go.Proofs
open Go.Tm
set_option linter.unusedSimpArgs false
theorem ya35 (n : Int) : ∃ b, zlw n = some b /\ (b = true -> 0 <= n /\ n <= 1099511627776) := by
 rw [zlw]
 refine ⟨_, rfl, fun h => ?_⟩
 simp at h
 omega
structure GetOk (l : List Int) (r : Int × Int × Int) : Prop where
 s0 : 0 <= r.2.1
 s1 : r.2.1 <= l.length
 n0 : r.2.2 = 0 -> 0 <= r.1 /\ r.1 <= 1099511627776
theorem zx1 : ∀ (l : List Int) (k : Nat) (n : Int), (∃ u, zd5 l k n = some (.inr u)) \/ ∃ a b, zd5 l k n = some (.inl (a, b, 0)) /\ 0 <= b /\ b <= k + l.length /\ 0 <= a /\ a <= 1099511627776 := by
 intro l
 induction l with
 | nil => intro k n; exact .inl ⟨(), rfl⟩
 | cons y l ih =>
  intro k n
  rw [zd5]
  by_cases h5 : (k : Int) > 5
  rw [if_pos h5]; exact .inl ⟨(), rfl⟩
  rw [if_neg h5, if_pos (by rw [zpy _ (by omega)]; omega)]
  by_cases h7 : y > 127
  rw [if_pos h7]
  rcases ih (k + 1) _ with h | ⟨a, b, h, h1, h2, h3⟩
  exact .inl h
  exact .inr ⟨a, b, h, h1, by simp only [List.length_cons]; omega, h3⟩
  rw [if_neg h7]
  by_cases h0 : y = 0 /\ (k : Int) > 0
  rw [if_neg (fun h => h h0)]
  simp only [Option.bind_some]
  rw [if_pos (.inl h0)]
  exact .inl ⟨(), rfl⟩
  rw [if_pos h0]
  obtain ⟨b, hb, hb2⟩ := ya35 (bitw .or .i64 n (shw true .i64 (wr .i64 (bitw .and .u8 y 127)) (wr .i64 (7 * (k : Int)))))
  rw [hb]
  simp only [Option.bind_some]
  by_cases hbt : b = true
  rw [if_neg (by rintro (h | h); exact h0 h; exact h hbt), zpy ((k : Int) + 1) (by omega)]
  exact .inr ⟨_, _, rfl, by omega, by simp only [List.length_cons]; omega, hb2 hbt⟩
  rw [if_pos (.inr hbt)]
  exact .inl ⟨(), rfl⟩
theorem zri (l : List Int) : ∃ r, zfz l = some r /\ GetOk l r := by
 rw [zfz]
 rcases zx1 l 0 0 with ⟨u, h⟩ | ⟨a, b, h, h1, h2, h3⟩
 rw [h]; exact ⟨_, rfl, by show (0 : Int) <= 0; omega, by show (0 : Int) <= _; omega, by intro h; cases h⟩
 rw [h]; exact ⟨_, rfl, h1, by show b <= _; omega, fun _ => h3⟩
theorem zrg (l : List Int) (hl : l.length <= 1000000) : ∃ r, zfe l = some r /\ 0 <= r.2.1 /\ r.2.1 <= l.length := by
 obtain ⟨v, hv, ho⟩ := zri l
 have h1 := ho.s0
 have h2 := ho.s1
 rw [zfe, hv]
 simp only [Option.bind_some]
 by_cases hc : (¬ v.2.2 = 0 \/ v.1 > 4096) \/ v.1 > wr .i64 ((l.length : Int) - v.2.1)
 rw [if_pos hc]; exact ⟨_, rfl, by show (0 : Int) <= 0; omega, by show (0 : Int) <= _; omega⟩
 rw [if_neg hc]
 rw [zpy _ (by omega)] at hc
 have h3 := ho.n0 (by omega)
 rw [zpy _ (by omega), if_pos (by omega)]
 exact ⟨_, rfl, by show (0 : Int) <= v.2.1 + v.1; omega, by show v.2.1 + v.1 <= _; omega⟩
theorem zur (l : List Int) (hl : l.length <= 1000000) (v : Int × Int × Int) : ∀ (fu : Nat) (acc : List Int) (at' k : Int), (v.1 - k).toNat < fu -> 0 <= at' -> at' <= l.length -> 0 <= k -> v.1 <= 4096 -> (acc.length : Int) <= k ->
  (∃ e, zcf l v fu acc at' k = some (.inl ([], 0, e))) \/ ∃ acc' at2, zcf l v fu acc at' k = some (.inr (acc', at2)) /\ 0 <= at2 /\ at2 <= l.length := by
 intro fu
 induction fu with
 | zero => intro acc at' k h; omega
 | succ fu ih =>
  intro acc at' k h h0 h1 hk hv ha
  rw [zcf]
  by_cases hlt : k < v.1
  obtain ⟨r, hr, ho⟩ := zri (l.drop at'.toNat)
  have q1 := ho.s0
  have q2 := ho.s1
  simp only [List.length_drop] at q2
  rw [if_pos hlt, if_pos ⟨h0, h1⟩, hr]
  simp only [Option.bind_some]
  by_cases he : ¬ r.2.2 = 0
  rw [if_pos he]; exact .inl ⟨_, rfl⟩
  rw [if_neg he, if_pos (by simp; omega), zpy (at' + r.2.1) (by omega), zpy (k + 1) (by omega)]
  exact ih _ _ _ (by omega) (by omega) (by omega) (by omega) hv (by simp; omega)
  rw [if_neg hlt]; exact .inr ⟨_, _, rfl, h0, h1⟩
theorem zrh (l : List Int) (hl : l.length <= 1000000) (m : Int) : ∃ r, zff l m = some r /\ 0 <= r.2.1 /\ r.2.1 <= l.length := by
 rw [zff]
 by_cases hm : m < 0 \/ m > 4096
 rw [if_pos hm]; exact ⟨_, rfl, by show (0 : Int) <= 0; omega, by show (0 : Int) <= _; omega⟩
 rw [if_neg hm]
 obtain ⟨v, hv, ho⟩ := zri l
 rw [hv]
 simp only [Option.bind_some]
 by_cases hc : ¬ v.2.2 = 0 \/ v.1 > m
 rw [if_pos hc]; exact ⟨_, rfl, by show (0 : Int) <= 0; omega, by show (0 : Int) <= _; omega⟩
 rw [if_neg hc]
 rcases zur l hl v (v.1.toNat + 1) [] v.2.1 0 (by omega) ho.s0 ho.s1 (by omega) (by omega) (by simp) with ⟨e, h⟩ | ⟨a, b, h, h1, h2⟩
 rw [h]; exact ⟨_, rfl, by show (0 : Int) <= 0; omega, by show (0 : Int) <= _; omega⟩
 rw [h]; exact ⟨_, rfl, h1, h2⟩
theorem zt7 (r : Tcommand_reader) (n e : Int) (h : 0 <= n) : ∃ r', zcn r n e = some r' /\ r'.fB.length <= r.fB.length := by
 rw [zcn, if_pos (by omega)]
 exact ⟨_, rfl, by simp⟩
theorem zgy (r : Tcommand_reader) : ∃ x, zag r = some x /\ x.2.fB.length <= r.fB.length := by
 obtain ⟨v, hv, ho⟩ := zri r.fB
 obtain ⟨r', h1, h2⟩ := zt7 r v.2.1 v.2.2 ho.s0
 rw [zag, hv]
 simp only [Option.bind_some, h1]
 exact ⟨_, rfl, h2⟩
theorem zwi (r : Tcommand_reader) (hl : r.fB.length <= 1000000) : ∃ x, zcx r = some x /\ x.2.fB.length <= r.fB.length := by
 obtain ⟨v, hv, h0, _⟩ := zrg r.fB hl
 obtain ⟨r', h1, h2⟩ := zt7 r v.2.1 v.2.2 h0
 rw [zcx, hv]
 simp only [Option.bind_some, h1]
 exact ⟨_, rfl, h2⟩
theorem zwz (r : Tcommand_reader) (hl : r.fB.length <= 1000000) (m : Int) : ∃ x, zcy r m = some x /\ x.2.fB.length <= r.fB.length := by
 obtain ⟨v, hv, h0, _⟩ := zrh r.fB hl m
 obtain ⟨r', h1, h2⟩ := zt7 r v.2.1 v.2.2 h0
 rw [zcy, hv]
 simp only [Option.bind_some, h1]
 exact ⟨_, rfl, h2⟩
theorem zw6 (r : Tcommand_reader) (hl : r.fB.length <= 1000000) : ∃ x, zcg r = some x := by
 obtain ⟨v1, h1, l1⟩ := zgy r
 rw [zcg, h1]
 simp only [Option.bind_some]
 by_cases k1 : wr .u8 (min v1.1 255) = 1
 obtain ⟨v2, h2, l2⟩ := zgy v1.2
 obtain ⟨v3, h3, l3⟩ := zwz v2.2 (by omega) 4
 obtain ⟨v4, h4, l4⟩ := zgy v3.2
 obtain ⟨v5, h5, l5⟩ := zwi v4.2 (by omega)
 obtain ⟨v6, h6, l6⟩ := zwi v5.2 (by omega)
 simp only [k1, if_true, h2, h3, h4, h5, h6, Option.bind_some]
 exact ⟨_, rfl⟩
 by_cases k2 : wr .u8 (min v1.1 255) = 2
 obtain ⟨v2, h2, l2⟩ := zgy v1.2
 obtain ⟨v3, h3, l3⟩ := zgy v2.2
 rw [if_neg k1, if_pos k2, h2]
 simp only [Option.bind_some, h3]
 exact ⟨_, rfl⟩
 by_cases k3 : wr .u8 (min v1.1 255) = 3
 obtain ⟨v2, h2, l2⟩ := zwz v1.2 (by omega) 6
 rw [if_neg k1, if_neg k2, if_pos k3, h2]
 simp only [Option.bind_some]
 exact ⟨_, rfl⟩
 rw [if_neg k1, if_neg k2, if_neg k3]
 obtain ⟨b2, hb2⟩ : ∃ b2, (if (wr .u8 (min v1.1 255)) = 4 then some ((wr .u8 (min v1.1 255)) == 4) else if (wr .u8 (min v1.1 255)) = 5 then some ((wr .u8 (min v1.1 255)) == 5) else some ((wr .u8 (min v1.1 255)) == 6)) = some b2 := by
  split
  exact ⟨_, rfl⟩
  split <;> exact ⟨_, rfl⟩
 rw [hb2]
 simp only [Option.bind_some]
 by_cases hb : b2 = true
 rw [if_pos hb]
 obtain ⟨v2, h2, l2⟩ := zgy v1.2
 obtain ⟨v3, h3, l3⟩ := zgy v2.2
 simp only [h2, h3, Option.bind_some]
 by_cases k4 : wr .u8 (min v1.1 255) = 4
 obtain ⟨v4, h4, l4⟩ := zgy v3.2
 obtain ⟨v5, h5, l5⟩ := zgy ⟨v4.2.fB, v4.2.fOk⟩
 rw [if_pos k4, h4]
 simp only [Option.bind_some, h5]
 exact ⟨_, rfl⟩
 obtain ⟨v5, h5, l5⟩ := zgy ⟨v3.2.fB, v3.2.fOk⟩
 rw [if_neg k4]
 simp only [Option.bind_some, h5]
 exact ⟨_, rfl⟩
 rw [if_neg hb]
 exact ⟨_, rfl⟩
theorem zo7 (s : List UInt8) : ∃ r, zcu s = some r := by
 rw [zcu]
 by_cases h : (s.length : Int) > 1024
 rw [if_pos h]; exact ⟨_, rfl⟩
 rw [if_neg h]
 obtain ⟨x, hx⟩ := zw6 ⟨zh1 s, true⟩ (by simp [zh1]; omega)
 rw [hx]
 simp only [Option.bind_some]
 by_cases hc : (¬ (x.2.fOk = true)) \/ ((x.2.fB.length : Int) > 0)
 rw [if_neg (fun h => h hc)]
 simp only [Option.bind_some]
 rw [if_pos (.inl hc)]
 exact ⟨_, rfl⟩
 rw [if_pos hc]
 obtain ⟨e, he, _⟩ := zu0 x.1
 rw [he]
 simp only [Option.bind_some]
 split <;> exact ⟨_, rfl⟩
def zi2 : List (List UInt8) -> Option (List TCommand)
 | [] => some []
 | s :: l => match zcu s with
  | some (c, e) => if e = 0 then (zi2 l).map (c :: ·) else none
  | none => none
theorem zom : ∀ (l : List (List UInt8)) (cs : List TCommand), zi2 l = some cs -> cs.length = l.length := by
 intro l
 induction l with
 | nil => intro cs h; simp [zi2] at h; simp [<- h]
 | cons s l ih =>
  intro cs h
  obtain ⟨⟨c, e⟩, hr⟩ := zo7 s
  simp only [zi2, hr] at h
  split at h
  obtain ⟨ds, hd, rfl⟩ := Option.map_eq_some_iff.1 h
  simp [ih ds hd]
  cases h
theorem ya05 : ∀ (l : List (List UInt8)) (acc : List TCommand), acc.length + l.length < 1000000 -> zdr l acc = some (match zi2 l with | some cs => .inr (acc ++ cs) | none => .inl ([], 8)) := by
 intro l
 induction l with
 | nil => intro acc _; simp [zim, zi2]
 | cons s l ih =>
  intro acc h
  simp only [List.length_cons] at h
  obtain ⟨⟨c, e⟩, hr⟩ := zo7 s
  rw [zin, hr]
  simp only [Option.bind_some, zi2, hr]
  by_cases he : e = 0
  rw [if_neg (by simpa using he), if_pos (by simp; omega), ih _ (by simp; omega), if_pos he]
  cases zi2 l <;> simp
  rw [if_pos he, if_neg he]
theorem ya06 (l : List (List UInt8)) : zg3 l = some (if (l.length : Int) > 200 then (([], 4) : List TCommand × Int) else match zi2 l with | some cs => (cs, 0) | none => ([], 8)) := by
 rw [zg3]
 by_cases h : (l.length : Int) > 200
 rw [if_pos h, if_pos h]
 rw [if_neg h, if_neg h, ya05 l [] (by simp; omega)]
 cases zi2 l <;> rfl
def stp (g : Int) (s : TSkeen) (c : TCommand) : TSkeen × List TMessage := match zd3 s g c with
 | some r => if r.2.2 = 0 then (r.1, r.2.1) else (s, [])
 | none => (s, [])
theorem zqi {g : Int} {s : TSkeen} {c : TCommand} (h : V s) : ∃ r, zd3 s g c = some r /\ V (stp g s c).1 /\ s.Clock <= (stp g s c).1.Clock /\ (∃ d : List TStamp, (stp g s c).1.Done = s.Done ++ d /\ d.length = (stp g s c).2.length) /\
  ((¬ r.2.2 = 0 /\ stp g s c = (s, [])) \/ (r.2.2 = 0 /\ stp g s c = (r.1, r.2.1))) := by
 rcases zxh s g c h with ⟨e, he, ha, _⟩ | ⟨W, ck, ws, W', _, ha, hV, hck, _⟩
 have : stp g s c = (s, []) := by simp only [stp, ha, if_neg he]
 rw [this]
 exact ⟨_, ha, h, Int.le_refl _, ⟨[], by simp, rfl⟩, .inl ⟨he, rfl⟩⟩
 have : stp g s c = (⟨ck, W', s.Done ++ ws.map stW⟩, ws.map TWait.Message) := by simp only [stp, ha, if_true]
 rw [this]
 exact ⟨_, ha, hV, hck, ⟨ws.map stW, rfl, by simp⟩, .inr ⟨rfl, rfl⟩⟩
def fin (g : Int) : TSkeen -> List TCommand -> TSkeen
 | s, [] => s
 | s, c :: l => fin g (stp g s c).1 l
def outs (g : Int) : TSkeen -> List TCommand -> List TMessage
 | _, [] => []
 | s, c :: l => (stp g s c).2 ++ outs g (stp g s c).1 l
def tms (g : Int) : TSkeen -> List TCommand -> List Torder_given
 | _, [] => []
 | s, c :: l => (if ((stp g s c).1.Waits.length : Int) > (s.Waits.length : Int) then [⟨(stp g s c).1.Clock, c.Message⟩] else []) ++ tms g (stp g s c).1 l
theorem ya7o (g : Int) : ∀ (l : List TCommand) (s : TSkeen), V s -> V (fin g s l) /\ s.Clock <= (fin g s l).Clock /\ ∃ d : List TStamp, (fin g s l).Done = s.Done ++ d /\ d.length = (outs g s l).length := by
 intro l
 induction l with
 | nil => intro s h; exact ⟨h, Int.le_refl _, [], by simp [fin], rfl⟩
 | cons c l ih =>
  intro s h
  obtain ⟨r, _, h1, h2, ⟨d, h3, h4⟩, _⟩ := zqi (g := g) (c := c) h
  obtain ⟨k1, k2, e, k3, k4⟩ := ih _ h1
  exact ⟨k1, Int.le_trans h2 k2, d ++ e, by rw [fin, k3, h3, List.append_assoc], by simp [outs, h4, k4]⟩
theorem ya2n (g : Int) : ∀ (l : List TCommand) (s : TSkeen), (tms g s l).length <= l.length := by
 intro l
 induction l with
 | nil => intro s; simp [tms]
 | cons c l ih =>
  intro s
  have := ih (stp g s c).1
  rw [tms]
  split <;> simp <;> omega
theorem zxw (g : Int) : ∀ (l : List TCommand) (s : TSkeen) (out : List Torder_given), V s -> out.length + l.length < 1000000 -> zbv g l out s.Clock s.Waits s.Done = some (out ++ tms g s l, (fin g s l).Clock, (fin g s l).Waits, (fin g s l).Done) := by
 intro l
 induction l with
 | nil => intro s out _ _; simp [zbv, tms, fin]
 | cons c l ih =>
  intro s out h ho
  simp only [List.length_cons] at ho
  obtain ⟨r, hr, h1, h2, _, h5⟩ := zqi (g := g) (c := c) h
  rw [zbv]
  have hr' : zd3 ⟨s.Clock, s.Waits, s.Done⟩ g c = some r := hr
  rw [hr']
  simp only [Option.bind_some, fin, tms]
  rcases h5 with ⟨he, hs⟩ | ⟨he, hs⟩
  rw [hs] at h1 ⊢
  rw [if_pos he]
  simp only [Option.bind_some, zhb]
  rw [if_neg (by omega), if_neg (by omega)]
  simp only [Option.bind_some]
  have := ih s out h1 (by omega)
  simpa using this
  rw [hs] at h1 ⊢
  rw [if_neg (by simpa using he)]
  simp only [Option.bind_some, zhb]
  by_cases hw : (r.1.Waits.length : Int) > (s.Waits.length : Int)
  rw [if_pos hw, if_pos hw, if_pos (by simp; omega)]
  simp only [Option.bind_some]
  have := ih r.1 (out ++ [⟨r.1.Clock, c.Message⟩]) h1 (by simp; omega)
  simpa [List.append_assoc] using this
  rw [if_neg hw, if_neg hw]
  simp only [Option.bind_some]
  have := ih r.1 out h1 (by omega)
  simpa using this
theorem zs9 : V ⟨0, [], []⟩ := ⟨by decide, by decide, by decide, by decide, ⟨by simp, by simp, by simp⟩, ⟨by simp, by simp [zme]⟩, by simp⟩
def askS (g : Int) (l : List (List UInt8)) : Int := if g < 0 \/ g >= 4 then 2 else if (l.length : Int) > 200 then 4 else if zi2 l = none then 8 else 0
theorem ya1u {s : TSkeen} (h : V s) : ze8 s = some s := zt5 s (by have := h.lw; omega) (by have := h.ld; omega) (fun w hw => by have := (h.w.1 w hw).1.groups; omega)
end Go.Proofs
end
section
namespace Go.Proofs
open Go.Tm
set_option linter.unusedSimpArgs false
theorem wr_i {n : Int} (h1 : -9223372036854775808 <= n) (h2 : n <= 9223372036854775807) : wr .i64 n = n := zju _ _ (by show (-9223372036854775808 : Int) <= _; omega) (by show _ <= (9223372036854775807 : Int); omega)
theorem i64w {n : Int} (h1 : 0 <= n) (h2 : n <= 9223372036854775807) : IntKind.i64.wrap n = n := by
 simp [IntKind.wrap, IntKind.bits, IntKind.signed]; omega
theorem bv64 (a : Nat) (h : a < 18446744073709551616) : (BitVec.ofInt 64 (a : Int)).toNat = a := by
 rw [BitVec.ofInt_natCast, BitVec.toNat_ofNat]; exact Nat.mod_eq_of_lt (by omega)
theorem or64 (a b : Nat) (ha : a < 9223372036854775808) (hb : b < 9223372036854775808) : bitw .or .i64 (a : Int) (b : Int) = ((a ||| b : Nat) : Int) := by
 have hx : a ||| b < 2 ^ 63 := Nat.or_lt_two_pow (by omega) (by omega)
 unfold bitw
 show IntKind.i64.wrap ((BitVec.ofInt 64 (a : Int) ||| BitVec.ofInt 64 (b : Int)).toNat : Int) = _
 rw [BitVec.toNat_or, bv64 a (by omega), bv64 b (by omega)]
 exact i64w (by omega) (by omega)
theorem bv8 (a : Nat) (h : a < 256) : (BitVec.ofInt 8 (a : Int)).toNat = a := by
 rw [BitVec.ofInt_natCast, BitVec.toNat_ofNat]; exact Nat.mod_eq_of_lt (by omega)
theorem and8 (a : Nat) (ha : a < 256) : bitw .and .u8 (a : Int) 127 = ((a % 128 : Nat) : Int) := by
 have e := Nat.and_two_pow_sub_one_eq_mod a 7
 simp only [Nat.reducePow, Nat.reduceSub] at e
 unfold bitw
 show IntKind.u8.wrap ((BitVec.ofInt 8 (a : Int) &&& BitVec.ofInt 8 ((127 : Nat) : Int)).toNat : Int) = _
 rw [BitVec.toNat_and, bv8 a ha, bv8 127 (by decide), e]
 simp [IntKind.wrap, IntKind.bits, IntKind.signed]; omega
def zka (l : List Int) : Prop := ∀ x ∈ l, 0 <= x /\ x < 256
theorem ya0x (n : Int) : zlw n = some (decide (0 <= n /\ n <= 1099511627776)) := by
 rw [zlw]
 congr 1
 rw [Bool.eq_iff_iff]
 simp
def pw : Nat -> Nat
 | 0 => 1
 | 1 => 128
 | 2 => 16384
 | 3 => 2097152
 | 4 => 268435456
 | 5 => 34359738368
 | _ => 4398046511104
theorem ya74 {i : Nat} (hi : i <= 5) : 2 ^ (7 * i) = pw i := by
 rcases (by omega : i = 0 \/ i = 1 \/ i = 2 \/ i = 3 \/ i = 4 \/ i = 5) with rfl | rfl | rfl | rfl | rfl | rfl <;> rfl
theorem ya31 {i : Nat} (hi : i <= 5) : pw i <= 34359738368 := by
 rcases (by omega : i = 0 \/ i = 1 \/ i = 2 \/ i = 3 \/ i = 4 \/ i = 5) with rfl | rfl | rfl | rfl | rfl | rfl <;> decide
theorem shl (x i : Nat) (hx : x < 128) (hi : i <= 5) : shw true .i64 (x : Int) (wr .i64 (7 * (i : Int))) = ((x * pw i : Nat) : Int) := by
 rw [wr_i (by omega) (by omega)]
 have hm : min (7 * (i : Int)).toNat 64 = 7 * i := by omega
 have h1 : x * pw i <= 127 * 34359738368 := Nat.mul_le_mul (by omega) (ya31 hi)
 unfold shw
 show IntKind.i64.wrap ((x : Int) * ((2 : Nat) : Int) ^ (min (7 * (i : Int)).toNat 64)) = _
 rw [hm, <- Int.natCast_pow, ya74 hi, <- Int.natCast_mul]
 exact i64w (by omega) (by omega)
theorem orp (a x i : Nat) (ha : a < pw i) (hx : x < 128) (hi : i <= 5) : bitw .or .i64 (a : Int) ((x * pw i : Nat) : Int) = ((a + x * pw i : Nat) : Int) := by
 have key : ∀ k : Nat, pw i = 2 ^ k -> a ||| (x * pw i) = a + x * pw i := by
  intro k hk
  rw [hk] at ha ⊢
  have e := Nat.two_pow_add_eq_or_of_lt (i := k) (b := a) ha x
  rw [Nat.or_comm, Nat.mul_comm x, <- e, Nat.add_comm]
 have hb := ya31 hi
 have hm : x * pw i <= 127 * 34359738368 := Nat.mul_le_mul (by omega) hb
 rw [or64 a _ (by omega) (by omega), key (7 * i) (ya74 hi).symm]
theorem zz7 (l : List UInt8) : (zh1 l).length = l.length := by simp [zh1]
theorem zuk (l : List UInt8) : zka (zh1 l) := by
 intro x hx
 simp only [zh1, List.mem_map] at hx
 obtain ⟨y, _, rfl⟩ := hx
 have := y.toNat_lt
 omega
theorem ya6x (n : Int) : zfl n = some (decide (0 <= n /\ n <= 1099511627776)) := by
 rw [zfl]
 congr 1
 rw [Bool.eq_iff_iff]
 simp
theorem zz3 {i : Nat} (hi : i <= 5) : pw (i + 1) = 128 * pw i := by
 rcases (by omega : i = 0 \/ i = 1 \/ i = 2 \/ i = 3 \/ i = 4 \/ i = 5) with rfl | rfl | rfl | rfl | rfl | rfl <;> rfl
theorem zuw : ∀ (l : List Int) (i acc : Nat), zka l -> i <= 6 -> acc < pw i ->
  (∃ t, zd5 l i (acc : Int) = some (.inl t) /\ zap l i (acc : Int) ((pw i : Nat) : Int) = some (.inl t)) \/
  (zd5 l i (acc : Int) = some (.inr ()) /\ (zap l i (acc : Int) ((pw i : Nat) : Int) = some (.inl (0, 0, 8)) \/ zap l i (acc : Int) ((pw i : Nat) : Int) = some (.inr ())))
 | [], i, acc, _, _, _ => .inr ⟨by rw [zd5], .inr (by rw [zap])⟩
 | y :: l, i, acc, hb, hi, ha => by
  obtain ⟨y1, y2⟩ := hb y (List.mem_cons_self ..)
  obtain ⟨m, rfl⟩ : ∃ m : Nat, y = (m : Int) := ⟨y.toNat, by omega⟩
  rw [zd5, zap]
  by_cases h6 : i = 6
  rw [if_pos (by omega), if_neg (by omega)]
  exact .inr ⟨rfl, .inr rfl⟩
  have hi5 : i <= 5 := by omega
  have e7 : (0 : Int) <= wr .i64 (7 * (i : Int)) := by rw [wr_i (by omega) (by omega)]; omega
  have hm : m % 128 < 128 := Nat.mod_lt _ (by decide)
  have hp := ya31 hi5
  have hmul : m % 128 * pw i <= 127 * 34359738368 := Nat.mul_le_mul (by omega) hp
  have e1 : bitw .or .i64 (acc : Int) (shw true .i64 (wr .i64 (bitw .and .u8 (m : Int) 127)) (wr .i64 (7 * (i : Int)))) = ((acc + m % 128 * pw i : Nat) : Int) := by
   rw [and8 m (by omega), wr_i (n := ((m % 128 : Nat) : Int)) (by omega) (by omega), shl _ i hm hi5, orp acc _ i ha hm hi5]
  have e2 : wr .i64 ((acc : Int) + wr .i64 (wr .i64 ((m : Int).tmod 128) * ((pw i : Nat) : Int))) = ((acc + m % 128 * pw i : Nat) : Int) := by
   rw [Int.tmod_eq_emod_of_nonneg (by omega)]
   have : (m : Int) % 128 = ((m % 128 : Nat) : Int) := by omega
   rw [this, wr_i (n := ((m % 128 : Nat) : Int)) (by omega) (by omega), <- Int.natCast_mul, wr_i (n := ((m % 128 * pw i : Nat) : Int)) (by omega) (by omega), wr_i (by omega) (by omega)]
   omega
  have e3 : wr .i64 (((pw i : Nat) : Int) * 128) = ((pw (i + 1) : Nat) : Int) := by
   rw [zz3 hi5, wr_i (by omega) (by omega)]
   omega
  rw [if_neg (show ¬ ((i : Int) > 5) by omega), if_pos e7, if_pos (show (i : Int) < 6 by omega), e1, e2, e3]
  by_cases h : m < 128
  rw [if_neg (show ¬ ((m : Int) > 127) by omega), if_pos (show (m : Int) < 128 by omega), ya0x, ya6x]
  by_cases hz : m = 0 /\ i > 0
  rw [if_neg (by omega), if_neg (by omega)]
  simp only [Option.bind_some]
  rw [if_pos (by omega), if_pos (by omega)]
  exact .inr ⟨rfl, .inl rfl⟩
  rw [if_pos (by omega), if_pos (by omega)]
  simp only [Option.bind_some]
  by_cases hN : acc + m % 128 * pw i <= 1099511627776
  rw [decide_eq_true (by omega), if_neg (by simp; omega), if_neg (by simp; omega)]
  exact .inl ⟨_, rfl, rfl⟩
  rw [decide_eq_false (by omega), if_pos (.inr (by simp)), if_pos (.inr (by simp))]
  exact .inr ⟨rfl, .inl rfl⟩
  rw [if_pos (show (m : Int) > 127 by omega), if_neg (show ¬ ((m : Int) < 128) by omega)]
  have hacc : acc + m % 128 * pw i < pw (i + 1) := by
   rw [zz3 hi5]
   have : m % 128 * pw i <= 127 * pw i := Nat.mul_le_mul (by omega) (Nat.le_refl _)
   omega
  exact zuw l (i + 1) _ (fun x hx => hb x (List.mem_cons_of_mem _ hx)) (by omega) hacc
theorem get2 (l : List Int) (hb : zka l) : zd8 l = zfz l := by
 rw [zd8, zfz]
 have z : ((0 : Nat) : Int) = 0 := rfl
 have o : ((pw 0 : Nat) : Int) = 1 := rfl
 rcases zuw l 0 0 hb (by omega) (by decide) with ⟨t, h1, h2⟩ | ⟨h1, h2 | h2⟩ <;> rw [z] at h1 h2 <;> rw [o] at h2 <;> rw [h1, h2] <;> rfl
theorem zx2 (l : List Int) (hb : zka l) : zdh l = zfe l := by
 rw [zdh, zfe, get2 l hb]
def gt (l : List Int) : Int × Int × Int := (zfz l).getD (0, 0, 8)
theorem ya1a (l : List Int) : zfz l = some (gt l) /\ GetOk l (gt l) := by
 obtain ⟨r, hr, ho⟩ := zri l
 have : gt l = r := by rw [gt, hr]; rfl
 rw [this]
 exact ⟨hr, ho⟩
end Go.Proofs
end
section
namespace Go.Proofs
open Go.Tm
set_option linter.unusedSimpArgs false
set_option linter.unusedVariables false
theorem zqc {α β : Type} (c : Prop) [Decidable c] (x d : α) (f : α -> Option β) : Option.bind (if c then some x else some d) f = f (if c then x else d) := by
 split <;> rfl
def risG : Int -> List Int -> Bool
 | _, [] => true
 | k, y :: l => decide (k < y /\ y < 4) && risG y l
theorem zwk : ∀ (l : List Int) (k : Int), -1 <= k -> risG k l = true -> (l.length : Int) <= 3 - k \/ l = []
 | [], _, _, _ => .inr rfl
 | y :: l, k, hk, h => by
  simp only [risG, Bool.and_eq_true, decide_eq_true_eq] at h
  left
  rcases zwk l y (by omega) h.2 with h1 | h1
  simp only [List.length_cons]; omega
  subst h1; simp; omega
theorem zto (a b c : Int) : zcd a b c = some (decide (b <= a /\ a < c)) := by
 rw [zcd]
 congr 1
 rw [Bool.eq_iff_iff]; simp
theorem zzl (a : Int) : ze3 a = some (decide (IdOk a)) := by
 rw [ze3, zto]
 simp only [Option.bind_some]
 congr 1
 rw [Bool.eq_iff_iff]
 simp only [decide_eq_true_eq]
 unfold IdOk
 omega
theorem zwo {L pre l : List Int} {y : Int} (hL : L = pre ++ y :: l) {k : Int} (h0 : pre.getLast? = some k) : L.getD (pre.length - 1) default = k := by
 have hne : pre ≠ [] := by rintro rfl; simp at h0
 have hp : 0 < pre.length := List.length_pos_iff.2 hne
 rw [hL, List.getD_eq_getElem?_getD, List.getElem?_append_left (by omega), <- List.getLast?_eq_getElem?, h0]; rfl
theorem ya37 (m : TMessage) : ∀ (l pre : List Int) (k : Int), m.Groups = pre ++ l -> (pre = [] /\ k = -1 \/ 0 <= k /\ pre.getLast? = some k) -> zas m l pre.length = some (if risG k l = true then .inr () else .inl false) := by
 intro l
 induction l with
 | nil => intro pre k _ _; simp [zas, risG]
 | cons y l ih =>
  intro pre k hm hk
  rw [zas, zto]
  simp only [Option.bind_some]
  have hc : ((¬ (decide (0 <= y /\ y < 4) = true)) \/ (((pre.length : Int) > 0) /\ (y <= (m.Groups.getD (pre.length - 1) default)))) ↔ ¬ (k < y /\ y < 4) := by
   rcases hk with ⟨rfl, rfl⟩ | ⟨h0, hl⟩
   simp; omega
   have hne : pre ≠ [] := by rintro rfl; simp at hl
   have hp : 0 < pre.length := List.length_pos_iff.2 hne
   rw [zwo hm hl, decide_eq_true_eq]; omega
  by_cases h : k < y /\ y < 4
  rw [if_neg (fun hh => hc.1 hh h)]
  have e : risG k (y :: l) = risG y l := by simp [risG, h.1, h.2]
  have := ih (pre ++ [y]) y (by rw [hm]; simp) (.inr ⟨by rcases hk with ⟨_, rfl⟩ | ⟨h0, _⟩ <;> omega, by simp⟩)
  rw [List.length_append, List.length_singleton] at this
  rw [e]; exact this
  rw [if_pos (hc.2 h), if_neg]
  simp only [risG, Bool.and_eq_true, decide_eq_true_eq]
  exact fun hh => h hh.1
theorem ya3t (m : TMessage) : ∀ (l pre : List Int) (k : Int) (b : Bool), m.Groups = pre ++ l -> (pre = [] /\ k = -1 \/ 0 <= k /\ pre.getLast? = some k) -> zaf m l pre.length b = some (b && risG k l) := by
 intro l
 induction l with
 | nil => intro pre k b _ _; simp [zaf, risG]
 | cons y l ih =>
  intro pre k b hm hk
  cases b with
  | false => rw [zr6]; rfl
  | true =>
   rw [zaf, if_pos rfl, zrf]
   simp only [Option.bind_some, Bool.true_and]
   have hc : (decide (0 <= y /\ y <= 3) && (((pre.length : Int) == 0) || decide (y > m.Groups.getD (pre.length - 1) default))) = decide (k < y /\ y < 4) := by
    rw [Bool.eq_iff_iff]
    simp only [Bool.and_eq_true, Bool.or_eq_true, decide_eq_true_eq, beq_iff_eq]
    rcases hk with ⟨rfl, rfl⟩ | ⟨h0, hl⟩
    simp; omega
    have hne : pre ≠ [] := by rintro rfl; simp at hl
    have hp : 0 < pre.length := List.length_pos_iff.2 hne
    rw [zwo hm hl]; omega
   rw [hc]
   by_cases h : k < y /\ y < 4
   rw [decide_eq_true h]
   have := ih (pre ++ [y]) y true (by rw [hm]; simp) (.inr ⟨by rcases hk with ⟨_, rfl⟩ | ⟨h0, _⟩ <;> omega, by simp⟩)
   rw [List.length_append, List.length_singleton] at this
   rw [this]
   simp [risG, h]
   rw [decide_eq_false h, zr6]
   simp [risG, h]
def MOk (m : TMessage) : Prop := m.Groups ≠ [] /\ risG (-1) m.Groups = true /\ IdOk m.Id /\ (0 <= m.Topic /\ m.Topic <= 3) /\ m.Key.length <= 16 /\ m.Body.length <= 64
instance (m : TMessage) : Decidable (MOk m) := by unfold MOk IdOk; infer_instance
theorem zrz (m : TMessage) : zat m = some (if MOk m then 0 else 120) := by
 have h := ya3t m m.Groups [] (-1) ((decide ((m.Groups.length : Int) >= 1)) && (decide ((m.Groups.length : Int) <= 4))) rfl (.inl ⟨rfl, rfl⟩)
 rw [List.length_nil] at h
 rw [zat, h]
 simp only [Option.bind_some, zv5, zrf, zqc]
 by_cases hr : risG (-1) m.Groups = true
 have hl := zwk _ _ (by omega) hr
 by_cases hg : m.Groups = []
 have : ¬ MOk m := fun h => h.1 hg
 simp [hg, this]
 have h1 : 0 < m.Groups.length := List.length_pos_iff.2 hg
 have h4 : (m.Groups.length : Int) <= 4 := by rcases hl with h | h; omega; exact absurd h hg
 have e1 : decide ((m.Groups.length : Int) >= 1) = true := by simp; omega
 have e2 : decide ((m.Groups.length : Int) <= 4) = true := by simpa using h4
 by_cases hi : IdOk m.Id
 by_cases ht : 0 <= m.Topic /\ m.Topic <= 3
 by_cases hk : m.Key.length <= 16
 by_cases hb : m.Body.length <= 64
 have : MOk m := ⟨hg, hr, hi, ht, hk, hb⟩
 simp [e1, e2, hr, hi, ht, this]; omega
 have : ¬ MOk m := fun h => hb h.2.2.2.2.2
 simp [e1, e2, hr, hi, ht, this]; omega
 have : ¬ MOk m := fun h => hk h.2.2.2.2.1
 simp [e1, e2, hr, hi, ht, this]; omega
 have : ¬ MOk m := fun h => ht h.2.2.2.1
 simp [e1, e2, hr, hi, ht, this]
 have : ¬ MOk m := fun h => hi h.2.2.1
 simp [e1, e2, hr, hi, this]
 have : ¬ MOk m := fun h => hr h.2.1
 simp [hr, this]
theorem zva (m : TMessage) : zm7 m ↔ MOk m := by
 unfold zm7
 rw [zrz]
 split <;> simp_all
theorem zze (m : TMessage) : zct m = some (decide (MOk m)) := by
 have h := ya37 m m.Groups [] (-1) rfl (.inl ⟨rfl, rfl⟩)
 rw [List.length_nil] at h
 rw [zct, h]
 by_cases hr : risG (-1) m.Groups = true
 rw [if_pos hr]
 simp only [Option.bind_some, zzl, zto, zqc]
 congr 1
 rw [Bool.eq_iff_iff]
 simp only [Bool.and_eq_true, decide_eq_true_eq, MOk, hr, true_and, List.length_pos_iff]
 by_cases hg : m.Groups = []
 simp [hg]
 have h1 : 0 < m.Groups.length := List.length_pos_iff.2 hg
 have h1' : (m.Groups.length : Int) > 0 := by omega
 simp only [h1', hg, ne_eq, not_false_eq_true, true_and, if_true]
 by_cases hi : IdOk m.Id
 simp only [hi, decide_true, if_true, decide_eq_true_eq, true_and]
 omega
 simp [hi]
 have : ¬ MOk m := fun h => hr h.2.1
 rw [if_neg hr]
 simp [this]
end Go.Proofs
end
section
namespace Go.Proofs
open Go.Tm
set_option linter.unusedSimpArgs false
set_option linter.unusedVariables false
def zM : TMessage := ⟨0, [], 0, [], []⟩
theorem zyr (a b : TCommand) : zex a b = some (decide (a = b)) := by
 rw [zex, zp0, zqn]
 obtain ⟨a1, a2, a3, a4, a5, a6, a7, a8⟩ := a
 obtain ⟨b1, b2, b3, b4, b5, b6, b7, b8⟩ := b
 by_cases h : a1 = b1
 by_cases h2 : a2 = b2
 by_cases h3 : a3 = b3
 by_cases h4 : a4 = b4
 by_cases h5 : a5 = b5 <;> by_cases h6 : a6 = b6 <;> by_cases h7 : a7 = b7 <;> by_cases h8 : a8 = b8 <;> simp [h, h2, h3, h4, h5, h6, h7, h8]
 simp [h, h2, h3, h4]
 simp [h, h2, h3]
 simp [h, h2]
 simp [h]
def zsi (t n : Int) : Prop := (0 <= t /\ t <= 3) /\ 0 <= n /\ n <= 1073741824
def COk (c : TCommand) : Prop :=
 (c.Kind = 0 /\ c.Message = zM /\ c.Id = 0 /\ c.Time = 0 /\ c.Members = [] /\ c.Topic = 0 /\ c.Who = 0 /\ c.N = 0) \/
 (c.Kind = 1 /\ MOk c.Message /\ c.Id = 0 /\ c.Time = 0 /\ c.Members = [] /\ c.Topic = 0 /\ c.Who = 0 /\ c.N = 0) \/
 (c.Kind = 2 /\ c.Message = zM /\ IdOk c.Id /\ (1 <= c.Time /\ c.Time <= 1073741824) /\ c.Members = [] /\ c.Topic = 0 /\ c.Who = 0 /\ c.N = 0) \/
 (c.Kind = 3 /\ c.Message = zM /\ c.Id = 0 /\ c.Time = 0 /\ qerr c.Members = 0 /\ c.Topic = 0 /\ c.Who = 0 /\ c.N = 0) \/
 (c.Kind = 4 /\ c.Message = zM /\ IdOk c.Id /\ c.Time = 0 /\ c.Members = [] /\ zsi c.Topic c.N /\ 0 <= c.Who /\ c.Who <= 7) \/
 ((c.Kind = 5 \/ c.Kind = 6) /\ c.Message = zM /\ IdOk c.Id /\ c.Time = 0 /\ c.Members = [] /\ zsi c.Topic c.N /\ c.Who = 0)
theorem COk.kind {c : TCommand} (h : COk c) : 0 <= c.Kind /\ c.Kind <= 6 := by
 unfold COk at h
 omega
theorem len0 (l : List Int) : (((l.length : Int) == 0) = true) ↔ l = [] := by simp
theorem zzf (c : TCommand) : ∃ b, zfa c = some b /\ (b = true ↔ COk c) := by
 obtain ⟨K, m, id, t, ms, tp, who, n⟩ := c
 rw [zfa, zp0]
 simp only [Option.bind_some, zzl, zto, zqc, zyr, zze, zxs]
 by_cases k0 : K = 0
 subst k0
 refine ⟨_, by rw [if_pos rfl], ?_⟩
 simp [COk, TCommand.mk.injEq, zM]
 rw [if_neg k0]
 by_cases k1 : K = 1
 subst k1
 refine ⟨_, by rw [if_pos rfl], ?_⟩
 simp only [COk, Bool.and_eq_true, decide_eq_true_eq, beq_iff_eq, len0]
 simp
 simp only [and_assoc]
 rw [if_neg k1]
 by_cases hm : m = zM
 have hd : decide (m = (⟨0, [], 0, [], []⟩ : TMessage)) = true := decide_eq_true hm
 rw [hd]
 simp only [not_true_eq_false, not_false_eq_true, true_and, if_true, Bool.not_true, Bool.not_false, Bool.true_and]
 by_cases k2 : K = 2
 subst k2
 refine ⟨_, by rw [if_pos rfl], ?_⟩
 by_cases hi : IdOk id
 simp only [COk, hm, hi, decide_true, if_true, Bool.and_eq_true, decide_eq_true_eq, beq_iff_eq, len0]
 by_cases hms : ms = []
 subst hms
 simp
 omega
 simp [hms]
 simp [COk, hi]
 rw [if_neg k2]
 by_cases k3 : K = 3
 subst k3
 refine ⟨_, by rw [if_pos rfl], ?_⟩
 by_cases hq : id = 0 /\ t = 0
 simp [COk, hm, hq.1, hq.2, and_assoc]
 rw [if_neg hq]
 simp [COk, hm]
 omega
 rw [if_neg k3]
 by_cases k4 : K = 4
 subst k4
 refine ⟨_, by simp; rfl, ?_⟩
 by_cases hi : IdOk id
 by_cases ht : t = 0
 by_cases hms : ms = []
 subst hms
 simp [COk, hm, hi, ht, zsi]
 omega
 simp [COk, hms, hi, ht]
 simp [COk, hi, ht]
 simp [COk, hi]
 rw [if_neg k4]
 by_cases k56 : K = 5 \/ K = 6
 refine ⟨_, by rcases k56 with rfl | rfl <;> simp <;> rfl, ?_⟩
 by_cases hi : IdOk id
 by_cases ht : t = 0
 by_cases hms : ms = []
 subst hms
 rcases k56 with rfl | rfl <;> simp [COk, hm, hi, ht, zsi] <;> omega
 rcases k56 with rfl | rfl <;> simp [COk, hms, hi, ht]
 rcases k56 with rfl | rfl <;> simp [COk, hi, ht]
 rcases k56 with rfl | rfl <;> simp [COk, hi]
 have h5 : ¬ K = 5 := fun h => k56 (.inl h)
 have h6 : ¬ K = 6 := fun h => k56 (.inr h)
 refine ⟨false, by simp [h5, h6], ?_⟩
 simp [COk, k0, k1, k2, k3, k4]
 omega
 have hd : decide (m = (⟨0, [], 0, [], []⟩ : TMessage)) = false := decide_eq_false hm
 rw [hd]
 simp only [Bool.false_eq_true, not_false_eq_true, not_true_eq_false, false_and, if_false, Bool.not_false, Bool.not_true, Bool.false_and]
 have hno : ¬ COk ⟨K, m, id, t, ms, tp, who, n⟩ := by
  simp only [COk]
  simp [hm, k0, k1]
 simp only [hno, iff_false]
 split
 exact ⟨_, rfl, by simp⟩
 split
 exact ⟨_, rfl, by simp⟩
 split
 simp
 split <;> simp
end Go.Proofs
end
section
namespace Go.Proofs
open Go.Tm
set_option linter.unusedSimpArgs false
set_option linter.unusedVariables false
theorem ya1n {c p : TCommand} {ok : Bool} (h : zey c = some (p, ok)) : zc3 c = some (if ok = true /\ p = c then 0 else 120) := by
 rw [zc3, h]
 simp only [Option.bind_some, ya7w]
 cases ok with
 | false => simp
 | true =>
  by_cases hp : p = c <;> simp [hp]
theorem zw7 (c : TCommand) : ∃ e, zc3 c = some e /\ (e = 0 ↔ COk c) := by
 obtain ⟨p, ok, hp, hiff⟩ : ∃ p ok, zey c = some (p, ok) /\ ((ok = true /\ p = c) ↔ COk c) := by
  obtain ⟨K, m, id, t, ms, tp, who, n⟩ := c
  rw [zey]
  simp only [zv5, zrf, Option.bind_some, zqc, zrz, zug]
  by_cases k0 : K = 0
  subst k0
  refine ⟨_, _, by rw [if_pos rfl]; rfl, ?_⟩
  simp [COk, TCommand.mk.injEq, zM]
  constructor <;> (rintro ⟨h1, h2, h3, h4, h5, h6, h7⟩; refine ⟨h1.symm, h2.symm, h3.symm, ?_, h5.symm, h6.symm, h7.symm⟩; first | exact h4.symm | exact h4)
  rw [if_neg k0]
  by_cases k1 : K = 1
  subst k1
  refine ⟨_, _, by rw [if_pos rfl]; rfl, ?_⟩
  by_cases hm : MOk m
  simp [COk, hm, TCommand.mk.injEq]
  constructor <;> (rintro ⟨h2, h3, h4, h5, h6, h7⟩; refine ⟨h2.symm, h3.symm, ?_, h5.symm, h6.symm, h7.symm⟩; first | exact h4.symm | exact h4)
  simp [COk, hm]
  rw [if_neg k1]
  by_cases k2 : K = 2
  subst k2
  refine ⟨_, _, by rw [if_pos rfl]; rfl, ?_⟩
  by_cases hi : IdOk id
  by_cases ht : 1 <= t /\ t <= 1073741824
  simp [COk, hi, ht, TCommand.mk.injEq, zM]
  constructor <;> (rintro ⟨h1, h4, h5, h6, h7⟩; refine ⟨h1.symm, ?_, h5.symm, h6.symm, h7.symm⟩; first | exact h4.symm | exact h4)
  simp [COk, hi, ht]
  simp [COk, hi]
  rw [if_neg k2]
  by_cases k3 : K = 3
  subst k3
  refine ⟨_, _, by rw [if_pos rfl]; rfl, ?_⟩
  by_cases hq : qerr ms = 0
  simp [COk, hq, TCommand.mk.injEq, zM]
  constructor <;> (rintro ⟨h1, h2, h3, h5, h6, h7⟩; exact ⟨h1.symm, h2.symm, h3.symm, h5.symm, h6.symm, h7.symm⟩)
  simp [COk, hq]
  rw [if_neg k3]
  by_cases k4 : K = 4
  subst k4
  refine ⟨_, _, by rw [if_pos rfl]; rfl, ?_⟩
  by_cases hi : IdOk id
  by_cases ht : 0 <= tp /\ tp <= 3
  by_cases hn : 0 <= n /\ n <= 1073741824
  by_cases hw : 0 <= who /\ who <= 7
  simp [COk, hi, ht, hn, hw, zsi, TCommand.mk.injEq, zM]
  constructor <;> (rintro ⟨h1, h2, h4⟩; refine ⟨h1.symm, h2.symm, ?_⟩; first | exact h4.symm | exact h4)
  simp [COk, hi, ht, hn, hw]
  simp [COk, hi, ht, hn, zsi]
  simp [COk, hi, ht, zsi]
  simp [COk, hi]
  rw [if_neg k4]
  by_cases k56 : K = 5 \/ K = 6
  refine ⟨⟨K, ⟨0, [], 0, [], []⟩, id, 0, [], tp, 0, n⟩, _, by rcases k56 with rfl | rfl <;> simp <;> rfl, ?_⟩
  by_cases hi : IdOk id
  by_cases ht : 0 <= tp /\ tp <= 3
  by_cases hn : 0 <= n /\ n <= 1073741824
  rcases k56 with rfl | rfl <;> simp [COk, hi, ht, hn, zsi, TCommand.mk.injEq, zM] <;>
   (constructor <;> (rintro ⟨h1, h2, h4, h5⟩; refine ⟨h1.symm, h2.symm, ?_, h5.symm⟩; first | exact h4.symm | exact h4))
  rcases k56 with rfl | rfl <;> simp [COk, hi, ht, hn, zsi]
  rcases k56 with rfl | rfl <;> simp [COk, hi, ht, zsi]
  rcases k56 with rfl | rfl <;> simp [COk, hi]
  have h5 : ¬ K = 5 := fun h => k56 (.inl h)
  have h6 : ¬ K = 6 := fun h => k56 (.inr h)
  refine ⟨_, false, by simp [h5, h6]; rfl, ?_⟩
  simp [COk, k0, k1, k2, k3, k4, h5, h6]
 refine ⟨_, ya1n hp, ?_⟩
 by_cases h : ok = true /\ p = c
 simp [h, hiff.1 h]
 rw [if_neg h]
 simp only [show ¬ ((120 : Int) = 0) by omega, false_iff]
 exact fun hc => h (hiff.2 hc)
end Go.Proofs
end
section
namespace Go.Proofs
open Go.Tm
set_option linter.unusedSimpArgs false
set_option linter.unusedVariables false
theorem ya2b (l : List Int) : (gt l).2.2 = 0 \/ gt l = (0, 0, 8) := by
 unfold gt
 rw [zfz]
 rcases zx1 l 0 0 with ⟨u, h⟩ | ⟨a, b, h, _⟩
 rw [h]; exact .inr rfl
 rw [h]; exact .inl rfl
theorem gt_8 {l : List Int} (h : ¬ (gt l).2.2 = 0) : (gt l).2.2 = 8 := by
 rcases ya2b l with h1 | h1
 exact absurd h1 h
 rw [h1]
def gd (l : List Int) : List Int := l.drop (gt l).2.1.toNat
theorem zzs (l : List Int) : (gd l).length <= l.length := by unfold gd; rw [List.length_drop]; omega
theorem zjs {l : List Int} (h : zka l) (k : Nat) : zka (l.drop k) := fun x hx => h x (List.mem_of_mem_drop hx)
theorem zvd (l : List Int) (b : Bool) (n e : Int) (h0 : 0 <= n) (h1 : n <= (l.length : Int)) : zcn ⟨l, b⟩ n e = some ⟨l.drop n.toNat, b && (e == 0)⟩ := by
 rw [zcn]
 have : min n (l.length : Int) = n := by omega
 simp only [this]
 rw [if_pos ⟨h0, h1⟩]
theorem zxz (l : List Int) (b : Bool) : zag ⟨l, b⟩ = some ((gt l).1, ⟨gd l, b && ((gt l).2.2 == 0)⟩) := by
 obtain ⟨h1, h2⟩ := ya1a l
 rw [zag]
 simp only [h1, Option.bind_some]
 rw [zvd l b _ _ h2.s0 h2.s1]
 rfl
def tt (l : List Int) : List UInt8 × Int × Int := (zfe l).getD ([], 0, 8)
theorem ya2m (l : List Int) (hl : l.length <= 1000000) : zfe l = some (tt l) /\ 0 <= (tt l).2.1 /\ (tt l).2.1 <= (l.length : Int) := by
 obtain ⟨r, hr, h1, h2⟩ := zrg l hl
 have : tt l = r := by rw [tt, hr]; rfl
 rw [this]
 exact ⟨hr, h1, h2⟩
def td (l : List Int) : List Int := l.drop (tt l).2.1.toNat
theorem ya1x (l : List Int) : (td l).length <= l.length := by unfold td; rw [List.length_drop]; omega
theorem ya1w (l : List Int) (hl : l.length <= 1000000) (b : Bool) : zcx ⟨l, b⟩ = some ((tt l).1, ⟨td l, b && ((tt l).2.2 == 0)⟩) := by
 obtain ⟨h1, h2, h3⟩ := ya2m l hl
 rw [zcx]
 simp only [h1, Option.bind_some]
 rw [zvd l b _ _ h2 h3]
 rfl
def ii (l : List Int) (m : Int) : List Int × Int × Int := (zff l m).getD ([], 0, 8)
theorem ya7l (l : List Int) (m : Int) (hl : l.length <= 1000000) : zff l m = some (ii l m) /\ 0 <= (ii l m).2.1 /\ (ii l m).2.1 <= (l.length : Int) := by
 obtain ⟨r, hr, h1, h2⟩ := zrh l hl m
 have : ii l m = r := by rw [ii, hr]; rfl
 rw [this]
 exact ⟨hr, h1, h2⟩
def idp (l : List Int) (m : Int) : List Int := l.drop (ii l m).2.1.toNat
theorem ya3c (l : List Int) (m : Int) : (idp l m).length <= l.length := by unfold idp; rw [List.length_drop]; omega
theorem ya28 (l : List Int) (hl : l.length <= 1000000) (b : Bool) (m : Int) : zcy ⟨l, b⟩ m = some ((ii l m).1, ⟨idp l m, b && ((ii l m).2.2 == 0)⟩) := by
 obtain ⟨h1, h2, h3⟩ := ya7l l m hl
 rw [zcy]
 simp only [h1, Option.bind_some]
 rw [zvd l b _ _ h2 h3]
 rfl
theorem ztt (l : List Int) (hb : zka l) (v : Int × Int × Int) : ∀ (fu : Nat) (at' : Int) (acc : List Int) (k : Int),
  zbs l v fu at' acc k = (zcf l v fu acc at' k).map fun z => match z with | .inl r => .inl r | .inr (a, b) => .inr (b, a) := by
 intro fu
 induction fu with
 | zero => intro at' acc k; rfl
 | succ fu ih =>
  intro at' acc k
  rw [zbs, zcf]
  by_cases h1 : k < v.1
  by_cases h2 : 0 <= at' /\ at' <= (l.length : Int)
  rw [if_pos h1, if_pos h1, if_pos h2, if_pos h2, get2 _ (zjs hb _), (ya1a (l.drop at'.toNat)).1]
  simp only [Option.bind_some]
  by_cases h3 : (gt (l.drop at'.toNat)).2.2 = 0
  simp only [h3, not_true_eq_false, if_false]
  split
  exact ih _ _ _
  rfl
  simp only [h3, not_false_eq_true, if_true, gt_8 h3]; rfl
  rw [if_pos h1, if_pos h1, if_neg h2, if_neg h2]; rfl
  rw [if_neg h1, if_neg h1]; rfl
theorem ya1c (l : List Int) (hb : zka l) (m : Int) : ze7 l m = zff l m := by
 rw [ze7, zff, get2 l hb]
 split
 rfl
 cases hg : zfz l with
 | none => rfl
 | some v =>
  simp only [Option.bind_some]
  split
  rfl
  rw [ztt l hb]
  cases hz : zcf l v (v.1.toNat + 1) [] v.2.1 0 with
  | none => rfl
  | some z => cases z <;> rfl
def zn9 : Nat -> List Int -> Option (List Int × List Int)
 | 0, l => some ([], l)
 | k + 1, l => if (gt l).2.2 = 0 then (zn9 k (gd l)).map fun z => ((gt l).1 :: z.1, z.2) else none
theorem zul (k : Nat) (hk : k <= 1000) : ∀ (j fu n : Nat) (l acc : List Int), zka l -> j < fu -> n + j = k -> acc.length <= n ->
  zb5 (k : Int) fu l acc (n : Int) = some (match zn9 j l with | some z => .inr (z.2, acc ++ z.1) | none => .inl ([], [], false)) := by
 intro j
 induction j with
 | zero =>
  intro fu n l acc hb hf hn ha
  obtain ⟨fu, rfl⟩ : ∃ f, fu = f + 1 := ⟨fu - 1, by omega⟩
  rw [zb5, if_neg (by omega)]
  simp [zn9]
 | succ j ih =>
  intro fu n l acc hb hf hn ha
  obtain ⟨fu, rfl⟩ : ∃ f, fu = f + 1 := ⟨fu - 1, by omega⟩
  obtain ⟨g1, g2⟩ := ya1a l
  rw [zb5, if_pos (by omega), get2 l hb, g1]
  simp only [Option.bind_some]
  by_cases he : (gt l).2.2 = 0
  have hw : wr .i64 ((n : Int) + 1) = ((n + 1 : Nat) : Int) := by rw [wr_i (by omega) (by omega)]; omega
  rw [if_neg (by simpa using he), if_pos (by simp; omega), if_pos ⟨g2.s0, g2.s1⟩, hw]
  have := ih fu (n + 1) (gd l) (acc ++ [(gt l).1]) (zjs hb _) (by omega) (by omega) (by simp; omega)
  rw [gd] at this
  rw [this, zn9, if_pos he]
  rw [gd]
  cases zn9 j (List.drop (gt l).2.1.toNat l) <;> simp
  rw [if_pos he, zn9, if_neg he]
theorem zn1 (k : Nat) (hk : k <= 1000) (l : List Int) (hb : zka l) : zai l (k : Int) = some (match zn9 k l with | some z => (z.1, z.2, true) | none => ([], [], false)) := by
 rw [zai, Int.toNat_natCast]
 have := zul k hk k (k + 1) 0 l [] hb (by omega) (by omega) (by simp)
 rw [show ((0 : Nat) : Int) = 0 from rfl] at this
 rw [this]
 cases zn9 k l <;> simp
theorem zzh (l : List Int) (hb : zka l) (hl : l.length <= 1000000) (m : Int) : ze6 l m = some (if (ii l m).2.2 = 0 then ((ii l m).1, idp l m, true) else ([], [], false)) := by
 obtain ⟨h1, h2, h3⟩ := ya7l l m hl
 rw [ze6, ya1c l hb, h1]
 simp only [Option.bind_some]
 by_cases he : (ii l m).2.2 = 0
 rw [if_neg (by simpa using he), if_pos ⟨h2, h3⟩, if_pos he]; rfl
 rw [if_pos he, if_neg he]
theorem ya0g (l : List Int) (hb : zka l) (hl : l.length <= 1000000) : zeq l = some (if (tt l).2.2 = 0 then (if (tt (td l)).2.2 = 0 then ((tt l).1, (tt (td l)).1, td (td l), true) else ([], [], [], false)) else ([], [], [], false)) := by
 obtain ⟨h1, h2, h3⟩ := ya2m l hl
 rw [zeq, zx2 l hb, h1]
 simp only [Option.bind_some]
 by_cases he : (tt l).2.2 = 0
 ·rw [if_neg (by simpa using he), if_pos ⟨h2, h3⟩, if_pos he]
  have hd : List.drop (tt l).2.1.toNat l = td l := rfl
  obtain ⟨k1, k2, k3⟩ := ya2m (td l) (Nat.le_trans (ya1x l) hl)
  rw [hd, zx2 (td l) (zjs hb _), k1]
  simp only [Option.bind_some]
  have hlen : ((td l).length : Int) = (l.length : Int) - (tt l).2.1 := by unfold td; rw [List.length_drop]; omega
  by_cases he2 : (tt (td l)).2.2 = 0
  ·rw [if_neg (by simpa using he2), if_pos he2, wr_i (by omega) (by omega), if_pos ⟨by omega, by omega⟩]
   have : List.drop ((tt l).2.1 + (tt (td l)).2.1).toNat l = td (td l) := by
    conv => rhs; unfold td
    rw [List.drop_drop]
    congr 1
    show _ = (tt l).2.1.toNat + (tt (td l)).2.1.toNat
    omega
   rw [this]
  rw [if_pos he2, if_neg he2]
 rw [if_pos he, if_neg he]
end Go.Proofs
end
section
namespace Go.Proofs
open Go.Tm
set_option linter.unusedSimpArgs false
set_option linter.unusedVariables false
def zC : TCommand := ⟨0, ⟨0, [], 0, [], []⟩, 0, 0, [], 0, 0, 0⟩
def finR (c : TCommand) (rest : List Int) (ok : Bool) : TCommand × Int := if ok = true /\ rest = [] /\ zc3 c = some 0 then (c, 0) else (zC, 8)
theorem ya1h (c : TCommand) (rest : List Int) : finR c rest false = (zC, 8) := by simp [finR]
theorem ya1g {c : TCommand} (h : ¬ zc3 c = some 0) (rest : List Int) (b : Bool) : finR c rest b = (zC, 8) := by simp [finR, h]
theorem ya6z {s : List UInt8} (hs : ¬ (s.length : Int) > 1024) {c : TCommand} {r : Tcommand_reader} (h : zcg ⟨zh1 s, true⟩ = some (c, r)) : zcu s = some (finR c r.fB r.fOk) := by
 rw [zcu, if_neg hs, h]
 simp only [Option.bind_some]
 obtain ⟨e, he, hi⟩ := zw7 c
 unfold finR
 rw [he]
 by_cases h1 : r.fOk = true
 by_cases h2 : r.fB = []
 by_cases h3 : e = 0
 subst h3; simp [h1, h2]
 simp [h1, h2, h3]; rfl
 have h0 := List.length_pos_iff.2 h2
 simp [h1, h2, h0]; rfl
 simp [h1]; rfl
theorem ya86 {s : List UInt8} (hs : ¬ (s.length : Int) > 1024) {c : TCommand} {rest : List Int} {b : Bool} (h : zdx (zh1 s) = some (c, rest, b)) : zc6 s = some (finR c rest b) := by
 rw [zc6, if_neg hs, h]
 simp only [Option.bind_some]
 obtain ⟨e, he, hi⟩ := zw7 c
 obtain ⟨v, hv, hvi⟩ := zzf c
 unfold finR
 rw [he, hv]
 by_cases h1 : b = true
 by_cases h2 : rest = []
 by_cases h3 : e = 0
 have : v = true := hvi.2 (hi.1 h3)
 subst h3; simp [h1, h2, this]
 have : v = false := by
  cases v with
  | false => rfl
  | true => exact absurd (hi.2 (hvi.1 rfl)) h3
 simp [h1, h2, h3, this]; rfl
 have h0 := List.length_pos_iff.2 h2
 simp [h1, h2, h0]; rfl
 simp [h1]; rfl
theorem wr8k {k : Int} (h0 : 0 <= k) (h1 : k <= 255) : wr .u8 k = k := zju _ _ (by show (0 : Int) <= _; omega) (by show _ <= (255 : Int); omega)
theorem ya8d (l : List Int) : zn9 1 l = if (gt l).2.2 = 0 then some ([(gt l).1], gd l) else none := by
 simp only [zn9]; split <;> rfl
theorem zwq (l : List Int) (hb : zka l) (hl : l.length <= 1000000) : ∃ c r c' rest b, zcg ⟨l, true⟩ = some (c, r) /\ zdx l = some (c', rest, b) /\ finR c r.fB r.fOk = finR c' rest b := by
 have n1 : ∀ l : List Int, zka l -> zai l 1 = some (if (gt l).2.2 = 0 then ([(gt l).1], gd l, true) else ([], [], false)) := by
  intro l hb
  have := zn1 1 (by omega) l hb
  rw [show ((1 : Nat) : Int) = 1 from rfl] at this
  rw [this, ya8d]
  by_cases h : (gt l).2.2 = 0 <;> simp [h]
 have n2 : ∀ l : List Int, zka l -> zai l 2 = some (match zn9 2 l with | some z => (z.1, z.2, true) | none => ([], [], false)) := fun l hb => zn1 2 (by omega) l hb
 have n3 : ∀ l : List Int, zka l -> zai l 3 = some (match zn9 3 l with | some z => (z.1, z.2, true) | none => ([], [], false)) := fun l hb => zn1 3 (by omega) l hb
 have n4 : ∀ l : List Int, zka l -> zai l 4 = some (match zn9 4 l with | some z => (z.1, z.2, true) | none => ([], [], false)) := fun l hb => zn1 4 (by omega) l hb
 have hbd : ∀ (l : List Int), zka l -> zka (gd l) := fun l h => zjs h _
 have hbt : ∀ (l : List Int), zka l -> zka (td l) := fun l h => zjs h _
 have hbi : ∀ (l : List Int) (m : Int), zka l -> zka (idp l m) := fun l m h => zjs h _
 rw [zcg, zdx, zxz, n1 l hb]
 simp only [Option.bind_some]
 have hb1 := hbd l hb
 have hl1 : (gd l).length <= 1000000 := Nat.le_trans (zzs l) hl
 by_cases e0 : (gt l).2.2 = 0
 case neg =>
  -- nothing was read
  have hz : gt l = (0, 0, 8) := (ya2b l).resolve_left e0
  rw [if_neg e0]
  have k0 : wr .u8 (min (gt l).1 255) = 0 := by
   rw [hz]
   show wr .u8 (min (0 : Int) 255) = 0
   rw [show min (0 : Int) 255 = 0 by omega]
   exact wr8k (by omega) (by omega)
  simp only [k0]
  refine ⟨_, _, _, _, _, by simp; exact ⟨rfl, rfl⟩, by simp; exact ⟨rfl, rfl, rfl⟩, ?_⟩
  simp [finR, hz]
 have hk := (ya1a l).2.n0 e0
 generalize hl2 : gd l = l2 at hb1 hl1
 generalize hkk : (gt l).1 = k at hk
 rw [if_pos e0]
 simp only [e0, beq_self_eq_true, Bool.and_self, List.getD_cons_zero, List.length_singleton, Nat.lt_add_one, not_true_eq_false, not_false_eq_true, true_implies, if_true, false_or]
 by_cases h6 : k > 6
 rw [if_pos h6]
 have hK : wr .u8 (min k 255) = min k 255 := wr8k (by omega) (by omega)
 have hx : ∀ (j : Int), j <= 6 -> ¬ min k 255 = j := by intro j hj; omega
 simp only [hK, hx 1 (by omega), hx 2 (by omega), hx 3 (by omega), hx 4 (by omega), hx 5 (by omega), if_false, Option.bind_some]
 have h66 : (min k 255 == 6) = false := by simp; omega
 simp only [h66, Bool.false_eq_true, if_false, Option.bind_some]
 refine ⟨_, _, _, _, _, rfl, rfl, ?_⟩
 rw [ya1h]
 refine ya1g ?_ _ _
 intro hc
 obtain ⟨e, he, hi⟩ := zw7 ⟨min k 255, ⟨0, [], 0, [], []⟩, 0, 0, [], 0, 0, 0⟩
 rw [he] at hc
 have := (hi.1 (sj hc)).kind
 simp only at this
 omega
 rw [if_neg h6]
 have hK : wr .u8 (min k 255) = k := by rw [show min k 255 = k by omega]; exact wr8k (by omega) (by omega)
 have hK2 : wr .u8 k = k := wr8k (by omega) (by omega)
 rw [hK, hK2]
 by_cases k1 : k = 1
 subst k1
 simp only [if_true, zxz, n1 l2 hb1, Option.bind_some]
 have hb2 := hbd l2 hb1
 have hl2 : (gd l2).length <= 1000000 := Nat.le_trans (zzs l2) hl1
 rw [ya28 _ hl2]
 simp only [Option.bind_some, zxz]
 have hb3 := hbi (gd l2) 4 hb2
 have hl3 : (idp (gd l2) 4).length <= 1000000 := Nat.le_trans (ya3c _ _) hl2
 have hb4 := hbd _ hb3
 have hl4 : (gd (idp (gd l2) 4)).length <= 1000000 := Nat.le_trans (zzs _) hl3
 rw [ya1w _ hl4]
 simp only [Option.bind_some]
 rw [ya1w _ (Nat.le_trans (ya1x _) hl4)]
 simp only [Option.bind_some]
 by_cases e1 : (gt l2).2.2 = 0
 simp only [e1, if_true, not_true_eq_false, not_false_eq_true, if_false, List.length_singleton, Nat.lt_add_one, List.getD_cons_zero, zzh _ hb2 hl2, Option.bind_some]
 by_cases e2 : (ii (gd l2) 4).2.2 = 0
 simp only [e2, if_true, not_true_eq_false, not_false_eq_true, if_false, n1 _ hb3, Option.bind_some]
 by_cases e3 : (gt (idp (gd l2) 4)).2.2 = 0
 simp only [e3, if_true, not_true_eq_false, not_false_eq_true, if_false, List.length_singleton, Nat.lt_add_one, List.getD_cons_zero, ya0g _ hb4 hl4, Option.bind_some]
 by_cases e4 : (tt (gd (idp (gd l2) 4))).2.2 = 0
 by_cases e5 : (tt (td (gd (idp (gd l2) 4)))).2.2 = 0
 refine ⟨_, _, _, _, _, rfl, by simp only [e4, e5, if_true]; rfl, ?_⟩
 simp [e4, e5]
 refine ⟨_, _, _, _, _, rfl, by simp only [e4, e5, if_true, if_false]; rfl, ?_⟩
 simp [finR, e4, e5]
 refine ⟨_, _, _, _, _, rfl, by simp only [e4, if_false]; rfl, ?_⟩
 simp [finR, e4]
 refine ⟨_, _, _, _, _, rfl, by simp [e3]; exact ⟨rfl, rfl, rfl⟩, ?_⟩
 simp [finR, e3]
 refine ⟨_, _, _, _, _, rfl, by simp [e2]; exact ⟨rfl, rfl, rfl⟩, ?_⟩
 simp [finR, e2]
 refine ⟨_, _, _, _, _, rfl, by simp [e1]; exact ⟨rfl, rfl, rfl⟩, ?_⟩
 simp [finR, e1]
 rw [if_neg k1, if_neg k1]
 by_cases k2 : k = 2
 subst k2
 simp only [if_true, zxz, n2 l2 hb1, Option.bind_some, zn9]
 by_cases e1 : (gt l2).2.2 = 0
 by_cases e2 : (gt (gd l2)).2.2 = 0
 refine ⟨_, _, _, _, _, rfl, by simp [e1, e2]; exact ⟨rfl, rfl, rfl⟩, ?_⟩
 simp [e1, e2]
 refine ⟨_, _, _, _, _, rfl, by simp [e1, e2]; exact ⟨rfl, rfl, rfl⟩, ?_⟩
 simp [finR, e1, e2]
 refine ⟨_, _, _, _, _, rfl, by simp [e1]; exact ⟨rfl, rfl, rfl⟩, ?_⟩
 simp [finR, e1]
 rw [if_neg k2, if_neg k2]
 by_cases k3 : k = 3
 subst k3
 simp only [if_true, ya28 _ hl1, zzh _ hb1 hl1, Option.bind_some]
 by_cases e1 : (ii l2 6).2.2 = 0
 refine ⟨_, _, _, _, _, rfl, by simp [e1]; exact ⟨rfl, rfl, rfl⟩, ?_⟩
 simp [e1]
 refine ⟨_, _, _, _, _, rfl, by simp [e1]; exact ⟨rfl, rfl, rfl⟩, ?_⟩
 simp [finR, e1]
 rw [if_neg k3, if_neg k3]
 by_cases k4 : k = 4
 subst k4
 simp only [if_true, beq_self_eq_true, zxz, n4 l2 hb1, Option.bind_some, zn9]
 by_cases e1 : (gt l2).2.2 = 0
 by_cases e2 : (gt (gd l2)).2.2 = 0
 by_cases e3 : (gt (gd (gd l2))).2.2 = 0
 by_cases e4 : (gt (gd (gd (gd l2)))).2.2 = 0
 refine ⟨_, _, _, _, _, rfl, by simp [e1, e2, e3, e4]; exact ⟨rfl, rfl, rfl⟩, ?_⟩
 simp [e1, e2, e3, e4]
 refine ⟨_, _, _, _, _, rfl, by simp [e1, e2, e3, e4]; exact ⟨rfl, rfl, rfl⟩, ?_⟩
 simp [finR, e1, e2, e3, e4]
 refine ⟨_, _, _, _, _, rfl, by simp [e1, e2, e3]; exact ⟨rfl, rfl, rfl⟩, ?_⟩
 simp [finR, e1, e2, e3]
 refine ⟨_, _, _, _, _, rfl, by simp [e1, e2]; exact ⟨rfl, rfl, rfl⟩, ?_⟩
 simp [finR, e1, e2]
 refine ⟨_, _, _, _, _, rfl, by simp [e1]; exact ⟨rfl, rfl, rfl⟩, ?_⟩
 simp [finR, e1]
 rw [if_neg k4, if_neg k4]
 by_cases k56 : k = 5 \/ k = 6
 have hb5 : (Option.bind (if k = 5 then some (k == 5) else some (k == 6)) : (Bool -> Option (TCommand × List Int × Bool)) -> _) = fun f => f true := by
  funext f
  rcases k56 with rfl | rfl <;> rfl
 have hT : (if k = 5 then some (k == 5) else some (k == 6)) = some true := by rcases k56 with rfl | rfl <;> rfl
 simp only [hT, Option.bind_some, if_true, zxz, n3 l2 hb1, zn9, k4, if_false]
 by_cases e1 : (gt l2).2.2 = 0
 by_cases e2 : (gt (gd l2)).2.2 = 0
 by_cases e3 : (gt (gd (gd l2))).2.2 = 0
 refine ⟨_, _, _, _, _, rfl, by simp [e1, e2, e3]; exact ⟨rfl, rfl, rfl⟩, ?_⟩
 simp [e1, e2, e3]
 refine ⟨_, _, _, _, _, rfl, by simp [e1, e2, e3]; exact ⟨rfl, rfl, rfl⟩, ?_⟩
 simp [finR, e1, e2, e3]
 refine ⟨_, _, _, _, _, rfl, by simp [e1, e2]; exact ⟨rfl, rfl, rfl⟩, ?_⟩
 simp [finR, e1, e2]
 refine ⟨_, _, _, _, _, rfl, by simp [e1]; exact ⟨rfl, rfl, rfl⟩, ?_⟩
 simp [finR, e1]
 have h5 : ¬ k = 5 := fun h => k56 (.inl h)
 have h6' : ¬ k = 6 := fun h => k56 (.inr h)
 have hT : (if k = 5 then some (k == 5) else some (k == 6)) = some false := by simp [h5, h6']
 simp only [hT, Option.bind_some, Bool.false_eq_true, if_false]
 exact ⟨_, _, _, _, _, rfl, rfl, rfl⟩
theorem ya70 (s : List UInt8) : zc6 s = zcu s := by
 by_cases hs : (s.length : Int) > 1024
 rw [zc6, zcu, if_pos hs, if_pos hs]
 obtain ⟨c, r, c', rest, b, h1, h2, h3⟩ := zwq (zh1 s) (zuk s) (by rw [zz7]; omega)
 rw [ya6z hs h1, ya86 hs h2, h3]
end Go.Proofs
end
section
namespace Go.Proofs
open Go.Tm
set_option linter.unusedSimpArgs false
set_option linter.unusedVariables false
theorem J.del {c : Int} {W : List TWait} {D : List TStamp} (hj : J c W D) {y : TWait} {l : List TWait} (hW : W = y :: l) : ∃ (K : Nat) (hk : K < W.length), plc (minW y l).Message.Id W = K /\ W[K] = minW y l /\ J c (W.eraseIdx K) (D ++ [stW (minW y l)]) := by
 have hmem : minW y l ∈ W := by
  rw [hW]
  rcases ztn l y with hh | hh
  rw [hh]; simp
  exact List.mem_cons_of_mem _ hh
 obtain ⟨hk, he⟩ := (zr4 (minW y l).Message.Id W hj.w.2).1 ⟨_, hmem, rfl⟩
 generalize hK : plc (minW y l).Message.Id W = K at hk he
 have hat : W[K] = minW y l := zq5 hj.w.2 (List.getElem_mem hk) hmem he
 have hv := hj.w.1 _ hmem
 have hsub : ∀ w ∈ W.eraseIdx K, w ∈ W := fun w hw => List.mem_of_mem_eraseIdx hw
 have hne : ∀ w ∈ W.eraseIdx K, w.Message.Id ≠ (minW y l).Message.Id := by
  intro w hw hid
  obtain ⟨i, hi, hik, rfl⟩ := List.mem_eraseIdx_iff_getElem.1 hw
  have e2 := zq5 hj.w.2 (List.getElem_mem hi) hmem hid
  rw [<- hat] at hid
  rcases Nat.lt_or_gt_of_ne hik with hh | hh
  have := List.pairwise_iff_getElem.1 hj.w.2 i K hi hk hh; omega
  have := List.pairwise_iff_getElem.1 hj.w.2 K i hk hi hh; omega
 have hle : ∀ w ∈ W, ¬ ltS (stW w) (stW (minW y l)) := by
  intro w hw
  rw [hW] at hw
  rcases List.mem_cons.1 hw with rfl | hw
  exact (zrb l _).1
  exact (zrb l y).2 w hw
 have hid := hv.1.id
 have hJ : J c (W.eraseIdx K) (D ++ [stW (minW y l)]) := by
  refine ⟨hj.c1, (hj.d.snoc _).2 ⟨⟨⟨?_, ?_, hid.1, ?_⟩, hv.2.1, hv.2.2.1⟩, hv.2.2.2.2, fun hm => ?_⟩, fun w hw => ?_, hj.w.2.sublist (List.eraseIdx_sublist _ _)⟩
  have := hv.2.1; show 0 <= (minW y l).Time; omega
  have := hv.2.2.1; have := hj.c1; show (minW y l).Time <= 1073741824; omega
  have := hid.2; show (minW y l).Message.Id < 6291456; omega
  obtain ⟨x, hx, he2⟩ := List.mem_map.1 hm
  exact hv.2.2.2.1 x hx he2
  have hw1 := hj.w.1 w (hsub w hw)
  refine ⟨hw1.1, hw1.2.1, hw1.2.2.1, fun x hx => ?_, fun x hx => ?_⟩
  rcases List.mem_append.1 hx with hx | hx
  exact hw1.2.2.2.1 x hx
  simp at hx; subst hx; exact fun e => hne w hw e.symm
  simp at hx; subst hx
  exact zup (fun e => hne w hw e.symm) (hle w (hsub w hw))
 exact ⟨K, hk, rfl, hat, hJ⟩
theorem zzi (a b : TStamp) : zew a b = some (decide (ltS a b)) := by
 rw [zew]
 congr 1
 rw [Bool.eq_iff_iff]
 simp only [Bool.or_eq_true, Bool.and_eq_true, decide_eq_true_eq, beq_iff_eq]
 exact Iff.rfl
theorem getW {W : List TWait} {k : Nat} (h : k < W.length) : W.getD k default = W[k] := by simp [List.getD, List.getElem?_eq_getElem h]
theorem zxj (id : Int) : ∀ (l : List TWait) (n : Nat), (∃ (k : Nat) (h : k < l.length), l[k].Message.Id = id /\ zbh id l n = some (.inl ((n + k : Nat) : Int))) \/ ((∀ w ∈ l, w.Message.Id ≠ id) /\ zbh id l n = some (.inr ())) := by
 intro l
 induction l with
 | nil => intro n; exact .inr ⟨by simp, rfl⟩
 | cons y l ih =>
  intro n
  rw [zbh]
  by_cases h : y.Message.Id = id
  rw [if_pos h]; exact .inl ⟨0, by simp, h, rfl⟩
  rw [if_neg h]
  rcases ih (n + 1) with ⟨k, hk, h1, h2⟩ | ⟨h1, h2⟩
  exact .inl ⟨k + 1, by simp; omega, by simpa using h1, by rw [h2]; congr 3; omega⟩
  refine .inr ⟨fun w hw => ?_, h2⟩
  rcases List.mem_cons.1 hw with rfl | hw
  exact h
  exact h1 w hw
theorem zwd (s : TSkeen) (id : Int) (hu : zme s.Waits) : zcq s id = some (if (∃ w ∈ s.Waits, w.Message.Id = id) then ((plc id s.Waits : Nat) : Int) else -1) := by
 rw [zcq]
 rcases zxj id s.Waits 0 with ⟨k, hk, h1, h2⟩ | ⟨h1, h2⟩
 rw [h2, if_pos ⟨_, List.getElem_mem hk, h1⟩]
 obtain ⟨hp, he⟩ := (zr4 id s.Waits hu).1 ⟨_, List.getElem_mem hk, h1⟩
 have : k = plc id s.Waits := by
  rcases Nat.lt_trichotomy k (plc id s.Waits) with hh | hh | hh
  have := List.pairwise_iff_getElem.1 hu k _ hk hp hh; omega
  exact hh
  have := List.pairwise_iff_getElem.1 hu _ k hp hk hh; omega
 subst this
 simp
 rw [h2, if_neg (by rintro ⟨w, hw, he⟩; exact h1 w hw he)]; rfl
theorem ya0o (s : TSkeen) (id : Int) : ze5 s id = some (s.Done.any fun x => x.Id == id) := by
 rw [ze5]
 have : ∀ l : List TStamp, zcb id l = some (if (l.any fun x => x.Id == id) = true then .inl true else .inr ()) := by
  intro l
  induction l with
  | nil => rfl
  | cons y l ih =>
   rw [zcb]
   by_cases h : y.Id = id
   rw [if_pos h]; simp [h]
   rw [if_neg h, ih]; simp [h]
 rw [this]
 cases s.Done.any fun x => x.Id == id <;> rfl
theorem ya84 (W : List TWait) (w : TWait) (hW : W.length <= 1000) : ∀ (fu k : Nat) (acc : List TWait), W.length - k < fu -> acc.length <= 2000 + k -> k <= W.length -> zby W w fu acc (k : Int) = some (acc ++ (W.drop k).filter fun x => decide (x.Message.Id < w.Message.Id)) := by
 intro fu
 induction fu with
 | zero => intro k acc h; omega
 | succ fu ih =>
  intro k acc h ha hk
  rw [zby]
  by_cases hlt : k < W.length
  have hw : wr .i64 ((k : Int) + 1) = ((k + 1 : Nat) : Int) := by rw [wr_i (by omega) (by omega)]; omega
  rw [if_pos (by omega), if_pos (by omega), Int.toNat_natCast, getW hlt, hw, List.drop_eq_getElem_cons hlt, List.filter_cons]
  by_cases hc : W[k].Message.Id < w.Message.Id
  rw [if_pos hc, if_pos (by omega), if_pos (by simp; omega), if_pos (by simpa using hc)]
  simp only [Option.bind_some]
  rw [ih (k + 1) _ (by omega) (by simp; omega) (by omega)]
  simp
  rw [if_neg hc, if_neg (by simpa using hc)]
  simp only [Option.bind_some]
  exact ih (k + 1) _ (by omega) (by omega) (by omega)
  rw [if_neg (by omega), List.drop_of_length_le (by omega)]
  simp
theorem ya83 (W : List TWait) (w : TWait) (hW : W.length <= 1000) : ∀ (fu k : Nat) (acc : List TWait), W.length - k < fu -> acc.length <= 4000 + k -> k <= W.length -> zbx W w fu acc (k : Int) = some (acc ++ (W.drop k).filter fun x => decide (x.Message.Id > w.Message.Id)) := by
 intro fu
 induction fu with
 | zero => intro k acc h; omega
 | succ fu ih =>
  intro k acc h ha hk
  rw [zbx]
  by_cases hlt : k < W.length
  have hw : wr .i64 ((k : Int) + 1) = ((k + 1 : Nat) : Int) := by rw [wr_i (by omega) (by omega)]; omega
  rw [if_pos (by omega), if_pos (by omega), Int.toNat_natCast, getW hlt, hw, List.drop_eq_getElem_cons hlt, List.filter_cons]
  by_cases hc : W[k].Message.Id > w.Message.Id
  rw [if_pos hc, if_pos (by omega), if_pos (by simp; omega), if_pos (by simpa using hc)]
  simp only [Option.bind_some]
  rw [ih (k + 1) _ (by omega) (by simp; omega) (by omega)]
  simp
  rw [if_neg hc, if_neg (by simpa using hc)]
  simp only [Option.bind_some]
  exact ih (k + 1) _ (by omega) (by omega) (by omega)
  rw [if_neg (by omega), List.drop_of_length_le (by omega)]
  simp
theorem ya0q {id : Int} {l : List TWait} (h : ∀ x ∈ l, id < x.Message.Id) : plc id l = 0 := by
 cases l with
 | nil => rfl
 | cons y l => rw [plc, if_neg]; have := h y (List.mem_cons_self ..); omega
theorem ya7v (id : Int) : ∀ (l : List TWait), zme l -> (∀ x ∈ l, x.Message.Id ≠ id) -> (l.filter fun x => decide (x.Message.Id < id)) = l.take (plc id l) /\ (l.filter fun x => decide (x.Message.Id > id)) = l.drop (plc id l) := by
 intro l
 induction l with
 | nil => intro _ _; exact ⟨rfl, rfl⟩
 | cons y l ih =>
  intro hu hn
  have hu' := List.pairwise_cons.1 hu
  obtain ⟨h1, h2⟩ := ih hu'.2 fun x hx => hn x (List.mem_cons_of_mem _ hx)
  rw [plc]
  by_cases h : y.Message.Id < id
  rw [if_pos h]
  have h' : ¬ id < y.Message.Id := by omega
  simp [h, h', h1, h2]
  have hy := hn y (List.mem_cons_self ..)
  have hz : plc id l = 0 := ya0q fun x hx => by have := hu'.1 x hx; omega
  rw [if_neg h]
  rw [hz] at h1 h2
  have h' : id < y.Message.Id := by omega
  rw [List.filter_cons, List.filter_cons, if_neg (by simpa using h), if_pos (by simpa using h'), h1, h2]
  simp
theorem ya2l (W : List TWait) (w : TWait) (hW : W.length <= 1000) (hu : zme W) (hn : ∀ x ∈ W, x.Message.Id ≠ w.Message.Id) : zed W w = some (W.take (plc w.Message.Id W) ++ w :: W.drop (plc w.Message.Id W)) := by
 obtain ⟨h1, h2⟩ := ya7v w.Message.Id W hu hn
 have e1 := ya84 W w hW (W.length + 1) 0 [] (by omega) (by simp) (by omega)
 rw [show ((0 : Nat) : Int) = 0 from rfl, List.drop_zero, h1, List.nil_append] at e1
 have e2 := ya83 W w hW (W.length + 1) 0 (W.take (plc w.Message.Id W) ++ [w]) (by omega) (by simp; omega) (by omega)
 rw [show ((0 : Nat) : Int) = 0 from rfl, List.drop_zero, h2] at e2
 rw [zed, e1]
 simp only [Option.bind_some]
 rw [if_pos (by simp; omega), e2]
 simp
theorem ya0d (W : List TWait) (k : Nat) (hW : W.length <= 1000) : ∀ (fu i : Nat) (acc : List TWait), W.length - i < fu -> acc.length <= 2000 + i -> i <= W.length -> zbb W (k : Int) fu acc (i : Int) = some (acc ++ if i <= k then (W.drop i).eraseIdx (k - i) else W.drop i) := by
 intro fu
 induction fu with
 | zero => intro i acc h; omega
 | succ fu ih =>
  intro i acc h ha hi
  rw [zbb]
  by_cases hlt : i < W.length
  have hw : wr .i64 ((i : Int) + 1) = ((i + 1 : Nat) : Int) := by rw [wr_i (by omega) (by omega)]; omega
  rw [if_pos (by omega), hw, List.drop_eq_getElem_cons hlt]
  by_cases hc : i = k
  subst hc
  rw [if_neg (by omega)]
  simp only [Option.bind_some]
  rw [ih (i + 1) _ (by omega) (by omega) (by omega), if_neg (by omega)]
  simp
  rw [if_pos (by omega), if_pos (by omega), Int.toNat_natCast, getW hlt, if_pos (by simp; omega)]
  simp only [Option.bind_some]
  rw [ih (i + 1) _ (by omega) (by simp; omega) (by omega)]
  by_cases hik : i <= k
  rw [if_pos (by omega), if_pos hik]
  obtain ⟨d, hd⟩ : ∃ d, k - i = d + 1 := ⟨k - i - 1, by omega⟩
  rw [hd, show k - (i + 1) = d by omega, List.eraseIdx_cons_succ, List.append_assoc, List.singleton_append]
  rw [if_neg (by omega), if_neg hik]
  simp
  rw [if_neg (by omega), List.drop_of_length_le (by omega)]
  simp
theorem zxi (W : List TWait) (k : Nat) (hW : W.length <= 1000) : zdm W (k : Int) = some (W.eraseIdx k) := by
 have := ya0d W k hW (W.length + 1) 0 [] (by omega) (by simp) (by omega)
 rw [show ((0 : Nat) : Int) = 0 from rfl] at this
 rw [zdm, this]
 simp
theorem ya7f (W : List TWait) (hW : W.length <= 1000) : ∀ (fu i a : Nat) (ha : a < W.length), W.length - i < fu -> i <= W.length -> ∃ (j : Nat) (hj : j < W.length), zbi W fu (a : Int) (i : Int) = some (j : Int) /\ W[j] = minW W[a] (W.drop i) := by
 intro fu
 induction fu with
 | zero => intro i a ha h; omega
 | succ fu ih =>
  intro i a ha h hi
  rw [zbi]
  by_cases hlt : i < W.length
  have hw : wr .i64 ((i : Int) + 1) = ((i + 1 : Nat) : Int) := by rw [wr_i (by omega) (by omega)]; omega
  have e1 : zcr W[i] = some (stW W[i]) := rfl
  have e2 : zcr W[a] = some (stW W[a]) := rfl
  rw [if_pos (by omega), if_pos (by omega), Int.toNat_natCast, Int.toNat_natCast, getW hlt, getW ha, e1, e2]
  simp only [Option.bind_some]
  rw [if_pos (by omega), zzi, hw, List.drop_eq_getElem_cons hlt, minW]
  simp only [Option.bind_some]
  by_cases hc : ltS (stW W[i]) (stW W[a])
  rw [if_pos (by simpa using hc), if_pos hc]
  simp only [Option.bind_some]
  exact ih (i + 1) i hlt (by omega) (by omega)
  rw [if_neg (by simpa using hc), if_neg hc]
  simp only [Option.bind_some]
  exact ih (i + 1) a ha (by omega) (by omega)
  rw [if_neg (by omega), List.drop_of_length_le (by omega)]
  exact ⟨a, ha, rfl, rfl⟩
theorem ya15 (W : List TWait) (hW : W.length <= 1000) {y : TWait} {l : List TWait} (h : W = y :: l) : ∃ (j : Nat) (hj : j < W.length), zep W = some (j : Int) /\ W[j] = minW y l := by
 have h0 : 0 < W.length := by rw [h]; simp
 obtain ⟨j, hj, h1, h2⟩ := ya7f W hW (W.length + 1) 1 0 h0 (by omega) (by omega)
 refine ⟨j, hj, ?_, ?_⟩
 rw [zep]
 have h1 : zbi W (W.length + 1) 0 1 = _ := h1
 rw [h1]; rfl
 rw [h2]; subst h; rfl
end Go.Proofs
end
section
namespace Go.Proofs
open Go.Tm
set_option linter.unusedSimpArgs false
set_option linter.unusedVariables false
theorem ya2a {W : List TWait} (hu : zme W) {i j : Nat} (hi : i < W.length) (hj : j < W.length) (h : W[i] = W[j]) : i = j := by
 rcases Nat.lt_trichotomy i j with hh | hh | hh
 have := List.pairwise_iff_getElem.1 hu i j hi hj hh; rw [h] at this; omega
 exact hh
 have := List.pairwise_iff_getElem.1 hu j i hj hi hh; rw [h] at this; omega
theorem del2 (c0 : Tskeen_clock) (c : Int) : ∀ (fu fu' : Nat) (W : List TWait) (D : List TStamp) (M : List TMessage), W.length < fu -> W.length < fu' -> J c W D -> W.length + D.length <= 1000 -> M.length + W.length <= 1000 ->
  zbc fu' W D M = zad c0 fu W D M := by
 intro fu
 induction fu with
 | zero => intro fu' W D M h; omega
 | succ fu ih =>
  intro fu' W D M h h' hj h1 h2
  obtain ⟨fu', rfl⟩ : ∃ f, fu' = f + 1 := ⟨fu' - 1, by omega⟩
  rw [zad, zbc]
  cases hW : W with
  | nil => simp
  | cons y l =>
   have hpos : ((y :: l).length : Int) > 0 := by simp only [List.length_cons]; omega
   obtain ⟨j, hjl, e1, e2⟩ := ya15 W (by omega) hW
   obtain ⟨K, hk, e3, e4, hJ⟩ := hj.del hW
   have hjk : j = K := ya2a hj.w.2 hjl hk (by rw [e2, e4])
   subst hjk
   have hmem : minW y l ∈ W := by rw [<- e4]; exact List.getElem_mem hk
   rw [if_pos hpos, if_pos hpos, zvr y l (by rw [hW] at h1; simp at h1; omega)]
   rw [hW] at e1
   rw [e1]
   simp only [Option.bind_some]
   have hg : (y :: l).getD j default = minW y l := by rw [<- hW, getW hjl, e4]
   have hlt : (j : Int) < ((y :: l).length : Int) := by rw [<- hW]; omega
   rw [if_pos ⟨by omega, hlt⟩, Int.toNat_natCast, hg]
   by_cases hf : (minW y l).Final = true
   simp only [hf, not_true_eq_false, if_false]
   rw [if_pos ⟨by omega, hlt⟩]
   have hfd := zrp ⟨⟨c0.Skeen.Clock, W, D⟩⟩ (minW y l).Message.Id (by show W.length < 1000000; omega) hj.w.2 hj.ids (hj.ids _ hmem)
   have e5 : zcr (minW y l) = some (stW (minW y l)) := rfl
   have e6 : zfr (minW y l) = some (stW (minW y l)) := rfl
   rw [<- hW, hfd, e5, e6]
   simp only [Option.bind_some, e3, Int.toNat_natCast]
   have hlt' : (j : Int) < (W.length : Int) := by omega
   have hM : M.length + W.length <= 1000 := h2
   rw [if_pos (by simp; omega), if_pos ⟨by omega, hlt'⟩, if_pos (by simp; omega), zxi W j (by omega)]
   simp only [Option.bind_some]
   rw [if_pos ⟨by omega, hlt'⟩, if_pos (by omega), if_pos (by simp; omega), if_pos (by simp; omega)]
   have hlen : (W.eraseIdx j).length = W.length - 1 := List.length_eraseIdx_of_lt hk
   exact ih fu' _ _ _ (by omega) (by omega) hJ (by simp; omega) (by simp; omega)
   simp only [hf, Bool.false_eq_true, not_false_eq_true, if_true]
theorem zye (s : TSkeen) (g : Int) (m : TMessage) (hl : s.Waits.length <= 200) (hc0 : 0 <= s.Clock) (hj : J s.Clock s.Waits s.Done) (hm : zm7 m) :
  (((∃ w ∈ s.Waits, w.Message.Id = m.Id) \/ (s.Done.any fun x => x.Id == m.Id) = true \/ g ∉ m.Groups) /\ zaq ⟨s⟩ g m = some (0, ⟨s⟩)) \/
  ((¬ ∃ w ∈ s.Waits, w.Message.Id = m.Id) /\ (s.Done.any fun x => x.Id == m.Id) = false /\ g ∈ m.Groups /\
   (((s.Clock = 1073741824 \/ (s.Waits.length : Int) = 200) /\ zaq ⟨s⟩ g m = some (9, ⟨s⟩)) \/
    (¬ (s.Clock = 1073741824 \/ (s.Waits.length : Int) = 200) /\ zaq ⟨s⟩ g m = some (0, ⟨⟨s.Clock + 1, s.Waits.take (plc m.Id s.Waits) ++ ⟨m, s.Clock + 1, false⟩ :: s.Waits.drop (plc m.Id s.Waits), s.Done⟩⟩)))) := by
 rw [zaq, zrp ⟨s⟩ m.Id (by show s.Waits.length < 1000000; omega) hj.w.2 hj.ids hm.id, ya01]
 simp only [Option.bind_some]
 by_cases hx : ∃ w ∈ s.Waits, w.Message.Id = m.Id
 left
 simp only [hx, decide_true, not_true_eq_false, if_false, true_or, Option.bind_some, if_true, true_and]
 simp only [hx, decide_false, Bool.false_eq_true, not_false_eq_true, if_true, false_or, Option.bind_some, true_and]
 cases hd : s.Done.any fun x => x.Id == m.Id with
 | true =>
  left
  simp only [not_true_eq_false, if_false, Option.bind_some, true_or, if_true, true_and]
 | false =>
  have hg := zrx m.Groups g
  simp only [Bool.false_eq_true, not_false_eq_true, if_true, false_or, Option.bind_some, hg, true_and]
  by_cases hgm : g ∈ m.Groups
  right
  simp only [hgm, decide_true, not_true_eq_false, if_false, true_and]
  by_cases hfull : s.Clock = 1073741824 \/ (s.Waits.length : Int) = 200
  left; rw [if_pos hfull]; exact ⟨hfull, rfl⟩
  right
  have hc1 := hj.c1
  refine ⟨hfull, ?_⟩
  rw [if_neg hfull, zry _ (by have := hm.groups; omega)]
  simp only [Option.bind_some]
  have hple := zso m.Id s.Waits
  rw [if_pos (by omega), if_pos (by omega), zju _ _ (by show (-9223372036854775808 : Int) <= _; omega) (by show _ <= (9223372036854775807 : Int); omega), Int.toNat_natCast]
  left
  simp only [hgm, decide_false, Bool.false_eq_true, not_false_eq_true, if_true, true_and]
theorem ya32 {β : Type} (s : TSkeen) (g : Int) (c : TCommand) (hu : zme s.Waits) (A B : Option β) :
  (Option.bind (if c.Kind = 1 then zcq s c.Message.Id else some default) fun v1 =>
   Option.bind (if (c.Kind = 1) /\ (v1 < 0) then ze5 s c.Message.Id else some default) fun v2 =>
   Option.bind (if ((c.Kind = 1) /\ (v1 < 0)) /\ (¬ (v2 = true)) then zej c.Message.Groups g else some default) fun v3 =>
   if (((c.Kind = 1) /\ (v1 < 0)) /\ (¬ (v2 = true))) /\ (v3 = true) then A else B) =
  if c.Kind = 1 /\ (¬ ∃ w ∈ s.Waits, w.Message.Id = c.Message.Id) /\ (s.Done.any fun x => x.Id == c.Message.Id) = false /\ g ∈ c.Message.Groups then A else B := by
 by_cases k1 : c.Kind = 1
 rw [if_pos k1, zwd s _ hu]
 simp only [Option.bind_some, k1, true_and, ya0o, ya3e]
 by_cases hx : ∃ w ∈ s.Waits, w.Message.Id = c.Message.Id
 rw [if_pos hx]
 have : ¬ (((plc c.Message.Id s.Waits : Nat) : Int) < 0) := by omega
 simp [this, hx]
 rw [if_neg hx]
 simp only [show ((-1 : Int) < 0) by omega, if_true, Option.bind_some, true_and]
 cases hd : s.Done.any fun x => x.Id == c.Message.Id with
 | true => simp
 | false =>
  simp only [Bool.false_eq_true, not_false_eq_true, if_true, Option.bind_some, true_and, hx]
  by_cases hgm : g ∈ c.Message.Groups <;> simp [hgm]
 simp [k1]
theorem zvm {β : Type} (c : TCommand) (D : List TStamp) (n : Int) (W : List TWait) (hu : zme W) (f : Int × List TWait -> Option β) :
  (Option.bind (zcq (⟨n, W, D⟩ : TSkeen) c.Id) fun v6 =>
   Option.bind (α := Int × (List TWait)) (if ((c.Kind = 2) /\ (v6 >= 0)) -> (0 <= v6 /\ v6 < (W.length : Int)) then
   if (((c.Kind = 2) /\ (v6 >= 0)) /\ (¬ ((W.getD v6.toNat default).Final = true))) -> (0 <= v6 /\ v6 < (W.length : Int)) then
   if (((c.Kind = 2) /\ (v6 >= 0)) /\ (¬ ((W.getD v6.toNat default).Final = true))) /\ (c.Time >= (W.getD v6.toNat default).Time) then
   if (0 <= v6 /\ v6 < (W.length : Int)) then
   if (0 <= v6 /\ v6 < ((W.set v6.toNat (⟨(W.getD v6.toNat default).Message, c.Time, (W.getD v6.toNat default).Final⟩ : TWait)).length : Int)) then
   some ((max n c.Time), ((W.set v6.toNat (⟨(W.getD v6.toNat default).Message, c.Time, (W.getD v6.toNat default).Final⟩ : TWait)).set v6.toNat (⟨((W.set v6.toNat (⟨(W.getD v6.toNat default).Message, c.Time, (W.getD v6.toNat default).Final⟩ : TWait)).getD v6.toNat default).Message, ((W.set v6.toNat (⟨(W.getD v6.toNat default).Message, c.Time, (W.getD v6.toNat default).Final⟩ : TWait)).getD v6.toNat default).Time, true⟩ : TWait)))
   else none
   else none
   else
   some (n, W)
   else none
   else none) f) =
  f (if c.Kind = 2 /\ ∃ (k : Nat) (hk : k < W.length), W[k].Message.Id = c.Id /\ W[k].Final = false /\ W[k].Time <= c.Time then
   (max n c.Time, W.set (plc c.Id W) ⟨(W.getD (plc c.Id W) default).Message, c.Time, true⟩) else (n, W)) := by
 rw [zwd ⟨n, W, D⟩ c.Id hu]
 simp only [Option.bind_some]
 by_cases k2 : c.Kind = 2
 simp only [k2, true_and]
 by_cases hx : ∃ w ∈ W, w.Message.Id = c.Id
 obtain ⟨hk, he⟩ := (zr4 c.Id W hu).1 hx
 rw [if_pos hx]
 simp only [Int.toNat_natCast, getW hk]
 have b1 : (0 : Int) <= ((plc c.Id W : Nat) : Int) /\ ((plc c.Id W : Nat) : Int) < (W.length : Int) := by omega
 rw [if_pos (fun _ => b1), if_pos (fun _ => b1)]
 have huniq : (∃ (k : Nat) (hk : k < W.length), W[k].Message.Id = c.Id /\ W[k].Final = false /\ W[k].Time <= c.Time) ↔ (W[plc c.Id W].Final = false /\ W[plc c.Id W].Time <= c.Time) := by
  constructor
  rintro ⟨k, hk', h1, h2, h3⟩
  have : W[k] = W[plc c.Id W] := zq5 hu (List.getElem_mem hk') (List.getElem_mem hk) (h1.trans he.symm)
  rw [<- this]; exact ⟨h2, h3⟩
  intro h; exact ⟨_, hk, he, h⟩
 simp only [huniq]
 by_cases hc : W[plc c.Id W].Final = false /\ W[plc c.Id W].Time <= c.Time
 rw [if_pos ⟨⟨by omega, by simp [hc.1]⟩, by omega⟩, if_pos b1, if_pos (by simp only [List.length_set]; exact b1), if_pos hc]
 simp only [Option.bind_some, List.set_set]
 congr 2
 simp [List.getD, hk]
 rw [if_neg, if_neg hc]
 rfl
 rintro ⟨⟨_, h1⟩, h2⟩
 refine hc ⟨by simpa using h1, by omega⟩
 rw [if_neg hx]
 have hno : ¬ ∃ (k : Nat) (hk : k < W.length), W[k].Message.Id = c.Id /\ W[k].Final = false /\ W[k].Time <= c.Time := by
  rintro ⟨k, hk, h1, _⟩; exact hx ⟨_, List.getElem_mem hk, h1⟩
 rw [if_neg hno]
 simp
 simp [k2]
end Go.Proofs
end
section
namespace Go.Proofs
open Go.Tm
set_option linter.unusedSimpArgs false
set_option linter.unusedVariables false
theorem ya2q (D : List TStamp) (ck : Int) (W : List TWait) (hJ : J ck W D) (hl : W.length <= 200) (hd : D.length <= 200) (fu : Nat) (hf : W.length < fu) :
  ∃ W' D' M', zc7 ⟨⟨ck, W, D⟩⟩ = some (M', ⟨⟨ck, W', D'⟩⟩) /\ zbc fu W D [] = some (W', D', M') := by
 obtain ⟨ws, W', g1, _⟩ := zxd ⟨⟨ck, W, D⟩⟩ ck (W.length + 1) W D [] (by omega) hJ (by omega) (by simp; omega)
 refine ⟨W', D ++ ws.map stW, [] ++ ws.map TWait.Message, ?_, ?_⟩
 rw [zc7]
 have g1 : zad ⟨⟨ck, W, D⟩⟩ (W.length + 1) W D [] = _ := g1
 simp only [g1, Option.bind_some]
 rw [del2 ⟨⟨ck, W, D⟩⟩ ck (W.length + 1) fu W D [] (by omega) hf hJ (by omega) (by simp; omega), g1]
theorem ya75 (s : TSkeen) (g : Int) (c : TCommand) (h : V s) (hg : 0 <= g /\ g < 4) (hc : zc3 c = some 0) :
  ∃ x m ok, zei s g c = some (x, m, ok) /\ (if ok = true then (x, m) else (s, [])) = stp g s c := by
 have hj := h.j
 have hlw := h.lw
 have hld := h.ld
 have hc0 := h.c0
 obtain ⟨e, he, hcc⟩ := zu0 c
 obtain ⟨hm1, hm2⟩ := hcc (by rw [he] at hc; exact sj hc)
 have htw : ze8 s = some s := zt5 s (by omega) (by omega) (fun w hw => by have := (hj.w.1 w hw).1.groups; omega)
 rw [zei, ya32 s g c hj.w.2]
 unfold stp
 rw [zd3, zu1 h]
 simp only [Option.bind_some, not_true_eq_false, if_false]
 rw [if_neg (show ¬ (g < 0 \/ g >= 4) by omega), hc]
 simp only [Option.bind_some, not_true_eq_false, if_false]
 rw [htw]
 simp only [Option.bind_some]
 -- how both end
 have fin : ∀ (W : List TWait) (ck : Int), J ck W s.Done -> W.length <= 200 -> W.length < s.Waits.length + 2 ->
   ∃ W' D' M', zc7 ⟨⟨ck, W, s.Done⟩⟩ = some (M', ⟨⟨ck, W', D'⟩⟩) /\ zbc (s.Waits.length + 2) W s.Done [] = some (W', D', M') :=
  fun W ck hJ h1 h2 => ya2q s.Done ck W hJ h1 hld _ h2
 have close : ∀ (W' : List TWait) (D' : List TStamp) (M' : List TMessage) (ck : Int), (if decide ((D'.length : Int) <= 200) = true then ((⟨ck, W', D'⟩ : TSkeen), M') else (s, [])) =
   (match (if (D'.length : Int) > 200 then some (zSk, ([] : List TMessage), (9 : Int)) else some ((⟨ck, W', D'⟩ : TSkeen), M', 0)) with | some r => if r.2.2 = 0 then (r.1, r.2.1) else (s, []) | none => (s, [])) := by
  intro W' D' M' ck
  by_cases hD : (D'.length : Int) > 200
  rw [if_pos hD, if_neg (by simp; omega)]; rfl
  rw [if_neg hD, if_pos (by simp; omega)]; rfl
 by_cases k1 : c.Kind = 1
 have k2 : ¬ c.Kind = 2 := by omega
 rw [if_pos k1]
 rcases zye s g c.Message hlw hc0 hj (hm1 k1) with ⟨hb, ha⟩ | ⟨a1, a2, a3, hr⟩
 have ha : zaq ⟨s⟩ g c.Message = _ := ha
 rw [ha, if_neg (by
  rintro ⟨_, b1, b2, b3⟩
  rcases hb with h | h | h
  exact b1 h
  rw [h] at b2; cases b2
  exact h b3)]
 simp only [Option.bind_some, not_true_eq_false, if_false]
 rw [zvm c s.Done s.Clock s.Waits hj.w.2, if_neg (fun hh => k2 hh.1)]
 obtain ⟨W', D', M', d1, d2⟩ := fin s.Waits s.Clock hj hlw (by omega)
 rw [d2, show (⟨s⟩ : Tskeen_clock) = ⟨⟨s.Clock, s.Waits, s.Done⟩⟩ from rfl, d1]
 simp only [Option.bind_some]
 exact ⟨_, _, _, rfl, close W' D' M' _⟩
 rw [if_pos ⟨k1, a1, a2, a3⟩]
 rcases hr with ⟨hf, ha⟩ | ⟨hf, ha⟩
 have ha : zaq ⟨s⟩ g c.Message = _ := ha
 rw [ha, if_pos hf]
 simp only [Option.bind_some]
 exact ⟨_, _, _, rfl, rfl⟩
 have ha : zaq ⟨s⟩ g c.Message = _ := ha
 have hw : wr .i64 (s.Clock + 1) = s.Clock + 1 := by have := hj.c1; rw [wr_i (by omega) (by omega)]
 have hmg := (hm1 k1).groups
 have hne : ∀ w ∈ s.Waits, w.Message.Id ≠ c.Message.Id := fun w hw he => a1 ⟨w, hw, he⟩
 have hnd : ∀ x ∈ s.Done, x.Id ≠ c.Message.Id := by
  intro x hxd he
  have := List.any_eq_false.1 a2 x hxd
  simp [he] at this
 have hJ := hj.ins c.Message (hm1 k1) hc0 (by have := hj.c1; omega) hnd hne
 rw [ha, if_neg hf, zbj, if_pos (by omega)]
 simp only [Option.bind_some, not_true_eq_false, if_false]
 rw [hw, ya2l s.Waits ⟨c.Message, s.Clock + 1, false⟩ (by omega) hj.w.2 hne]
 simp only [Option.bind_some]
 have hpl := zso c.Message.Id s.Waits
 have hlen : (s.Waits.take (plc c.Message.Id s.Waits) ++ ⟨c.Message, s.Clock + 1, false⟩ :: s.Waits.drop (plc c.Message.Id s.Waits)).length = s.Waits.length + 1 := by simp; omega
 rw [zvm c s.Done (s.Clock + 1) _ hJ.w.2, if_neg (fun hh => k2 hh.1)]
 obtain ⟨W', D', M', d1, d2⟩ := fin _ _ hJ (by omega) (by omega)
 rw [d2, d1]
 simp only [Option.bind_some]
 exact ⟨_, _, _, rfl, close W' D' M' _⟩
 rw [if_neg k1, if_neg (fun hh => k1 hh.1)]
 simp only [Option.bind_some]
 rw [zvm c s.Done s.Clock s.Waits hj.w.2]
 by_cases k2 : c.Kind = 2
 rw [if_pos k2]
 obtain ⟨i1, i2, i3⟩ := hm2 k2
 rcases ztw s c.Id c.Time (by omega) hj i1 with ⟨hf, hno⟩ | ⟨k, hk, b1, b2, b3, hf⟩
 have hf : zce ⟨s⟩ c.Id c.Time = _ := hf
 rw [hf, if_neg (by
  rintro ⟨_, k, hk, b1, b2, b3⟩
  rcases hno _ (List.getElem_mem hk) b1 with hh | hh
  rw [b2] at hh; cases hh
  omega)]
 simp only [Option.bind_some]
 obtain ⟨W', D', M', d1, d2⟩ := fin s.Waits s.Clock hj hlw (by omega)
 rw [d2, show (⟨s⟩ : Tskeen_clock) = ⟨⟨s.Clock, s.Waits, s.Done⟩⟩ from rfl, d1]
 simp only [Option.bind_some]
 exact ⟨_, _, _, rfl, close W' D' M' _⟩
 have hf : zce ⟨s⟩ c.Id c.Time = _ := hf
 rw [hf, if_pos ⟨k2, k, hk, b1, b2, b3⟩]
 simp only [Option.bind_some]
 obtain ⟨hp, he'⟩ := (zr4 c.Id s.Waits hj.w.2).1 ⟨_, List.getElem_mem hk, b1⟩
 have hpk : plc c.Id s.Waits = k := ya2a hj.w.2 hp hk (zq5 hj.w.2 (List.getElem_mem hp) (List.getElem_mem hk) (he'.trans b1.symm))
 rw [hpk, getW hk]
 obtain ⟨W', D', M', d1, d2⟩ := fin _ _ (hj.set k hk b3 i3) (by simpa using hlw) (by simp)
 rw [d2, d1]
 simp only [Option.bind_some]
 exact ⟨_, _, _, rfl, close W' D' M' _⟩
 rw [if_neg k2, if_neg (fun hh => k2 hh.1)]
 simp only [Option.bind_some]
 obtain ⟨W', D', M', d1, d2⟩ := fin s.Waits s.Clock hj hlw (by omega)
 rw [d2, show (⟨s⟩ : Tskeen_clock) = ⟨⟨s.Clock, s.Waits, s.Done⟩⟩ from rfl, d1]
 simp only [Option.bind_some]
 exact ⟨_, _, _, rfl, close W' D' M' _⟩
end Go.Proofs
end

/- Texts of the proof. -/
import Derived.Test.YtkananhhhkkpkaaOrderFinalPn
import Derived.Test.YtkananhhhkkpkaaOrderFinalPk
import Derived.Test.YtkananhhhkkpkaaOrderFinalPl
import Derived.Test.YtkananhhhkkpkaaOrderFinalPm
section
namespace Go.Proofs
open Go.Tm
set_option linter.unusedSimpArgs false
theorem msg_false (m : TMessage) : ∀ (l : List Int) (n : Nat), zad m l n false = some false := by
 intro l
 induction l with
 | nil => intro n; rfl
 | cons y l ih => intro n; rw [zad]; simpa using ih (n + 1)
theorem MsgOk.groups {m : TMessage} (h : MsgOk m) : m.Groups.length <= 4 := by
 apply Decidable.byContradiction
 intro hc
 unfold MsgOk at h
 have e : ((decide ((m.Groups.length : Int) >= 1)) && (decide ((m.Groups.length : Int) <= 4))) = false := by
  rw [Bool.and_eq_false_iff]; right; simp; omega
 rw [zam, e, msg_false] at h
 simp [cid_eq, in_eq] at h
theorem sm_eq (a b : TMessage) : zbi a b = some (decide (a = b)) := by
 rw [zbi, equal_eq]
 obtain ⟨a1, a2, a3, a4, a5⟩ := a
 obtain ⟨b1, b2, b3, b4, b5⟩ := b
 by_cases h : a1 = b1
 ·by_cases h2 : a2 = b2 <;> by_cases h3 : a3 = b3 <;> by_cases h4 : a4 = b4 <;> by_cases h5 : a5 = b5 <;> simp [h, h2, h3, h4, h5]
 ·simp [h]
theorem cs_eq (a b : TCommand) : zf3 a b = some (decide (a = b)) := by
 rw [zf3, sm_eq, equal_eq]
 obtain ⟨a1, a2, a3, a4, a5, a6, a7, a8⟩ := a
 obtain ⟨b1, b2, b3, b4, b5, b6, b7, b8⟩ := b
 by_cases h : a1 = b1
 ·by_cases h2 : a2 = b2
  ·by_cases h3 : a3 = b3
   ·by_cases h4 : a4 = b4
    ·by_cases h5 : a5 = b5 <;> by_cases h6 : a6 = b6 <;> by_cases h7 : a7 = b7 <;> by_cases h8 : a8 = b8 <;> simp [h, h2, h3, h4, h5, h6, h7, h8]
    ·simp [h, h2, h3, h4]
   ·simp [h, h2, h3]
  ·simp [h, h2]
 ·simp [h]
theorem plain_tot (c : TCommand) : ∃ p ok, ze1 c = some (p, ok) /\ (c.Kind = 1 -> ok = true -> MsgOk c.Message) /\ (c.Kind = 2 -> ok = true -> IdOk c.Id /\ 1 <= c.Time /\ c.Time <= 1073741824) := by
 rw [ze1, cid_eq]
 simp only [Option.bind_some]
 obtain ⟨v2, h2⟩ : ∃ v2, (if decide (IdOk c.Id) = true then zc5 c.Topic 0 3 else some default) = some v2 := by split <;> exact ⟨_, by first | exact in_eq _ _ _ | rfl⟩
 rw [h2]
 simp only [Option.bind_some]
 obtain ⟨v3, h3⟩ : ∃ v3, (if decide (IdOk c.Id) = true /\ v2 = true then zc5 c.N 0 1073741824 else some default) = some v3 := by split <;> exact ⟨_, by first | exact in_eq _ _ _ | rfl⟩
 rw [h3]
 simp only [Option.bind_some]
 by_cases k0 : c.Kind = 0
 ·rw [if_pos k0]; exact ⟨_, _, rfl, by intro h; omega, by intro h; omega⟩
 rw [if_neg k0]
 by_cases k1 : c.Kind = 1
 ·rw [if_pos k1]
  obtain ⟨e, he⟩ := (msg_tot c.Message).1
  rw [he]
  exact ⟨_, _, rfl, fun _ h => by rw [MsgOk, he]; simp at h; rw [h], by intro h; omega⟩
 rw [if_neg k1]
 by_cases k2 : c.Kind = 2
 ·rw [if_pos k2]
  by_cases hi : IdOk c.Id
  ·simp only [hi, decide_true, if_true, Option.bind_some, in_eq]
   exact ⟨_, _, rfl, by intro h; omega, fun _ h => ⟨trivial, by simpa using h⟩⟩
  ·simp only [hi, decide_false, Bool.false_eq_true, if_false, Option.bind_some]
   exact ⟨_, _, rfl, by intro h; omega, fun _ h => by simp at h⟩
 rw [if_neg k2]
 by_cases k3 : c.Kind = 3
 ·rw [if_pos k3, qcheck_eq]
  exact ⟨_, _, rfl, by intro h; omega, by intro h; omega⟩
 rw [if_neg k3]
 by_cases k4 : c.Kind = 4
 ·rw [if_pos k4]
  obtain ⟨v8, h8⟩ : ∃ v8, (if (decide (IdOk c.Id) = true /\ v2 = true) /\ v3 = true then zc5 c.Who 0 7 else some default) = some v8 := by split <;> exact ⟨_, by first | exact in_eq _ _ _ | rfl⟩
  rw [h8]
  exact ⟨_, _, rfl, by intro h; omega, by intro h; omega⟩
 rw [if_neg k4]
 by_cases k5 : c.Kind = 5
 ·rw [if_pos k5]
  simp only [Option.bind_some, k5]
  exact ⟨_, _, rfl, by intro h; omega, by intro h; omega⟩
 ·rw [if_neg k5]
  simp only [Option.bind_some]
  by_cases k6 : (c.Kind == 6) = true
  ·rw [if_pos k6]; exact ⟨_, _, rfl, by intro h; omega, by intro h; omega⟩
  ·rw [if_neg k6]; exact ⟨_, _, rfl, by intro h; omega, by intro h; omega⟩
theorem cmd_tot (c : TCommand) : ∃ e, zbw c = some e /\ (e = 0 -> (c.Kind = 1 -> MsgOk c.Message) /\ (c.Kind = 2 -> IdOk c.Id /\ 1 <= c.Time /\ c.Time <= 1073741824)) := by
 obtain ⟨p, ok, h, h1, h2⟩ := plain_tot c
 rw [zbw, h]
 simp only [Option.bind_some, cs_eq]
 cases ok with
 | false => exact ⟨120, by simp, by intro h; cases h⟩
 | true =>
  simp only [not_true_eq_false, not_false_eq_true, if_true, Option.bind_some, false_or]
  split
  ·exact ⟨120, rfl, by intro h; cases h⟩
  ·exact ⟨0, rfl, fun _ => ⟨fun k => h1 k rfl, fun k => h2 k rfl⟩⟩
theorem cmd_final (id t : Int) (hi : IdOk id) : zbw ⟨2, ⟨0, [], 0, [], []⟩, id, t, [], 0, 0, 0⟩ = some (if 1 <= t /\ t <= 1073741824 then 0 else 120) := by
 rw [zbw, ze1, cid_eq]
 simp only [Option.bind_some, hi, decide_true, if_true, in_eq]
 simp only [show ¬ ((2 : Int) = 0) by omega, show ¬ ((2 : Int) = 1) by omega, if_false, if_true, Option.bind_some, cs_eq, Bool.true_and]
 by_cases h : 1 <= t /\ t <= 1073741824
 ·simp [h]
 ·simp [h]
theorem clone_int (l : List Int) (h : l.length * 8 <= 140737488355328) : zbn l = some l := by rw [zbn, if_pos h]
theorem twin_loop (v : List TWait) (hv : v.length < 1000000) : ∀ (fu k : Nat) (l : List TWait), l.length = v.length -> v.length - k < fu -> k <= v.length -> (∀ w ∈ l, w.Message.Groups.length * 8 <= 140737488355328) -> zc4 v fu l (k : Int) = some l := by
 intro fu
 induction fu with
 | zero => intro k l _ h; omega
 | succ fu ih =>
  intro k l hl h hk hg
  rw [zc4]
  by_cases hlt : k < v.length
  ·have hk' : k < l.length := by omega
   have hgd : l.getD (k : Int).toNat default = l[k] := by simp [List.getD, List.getElem?_eq_getElem hk']
   have hw : wr .i64 ((k : Int) + 1) = ((k + 1 : Nat) : Int) := wr_eq _ _ (by show (-9223372036854775808 : Int) <= _; omega) (by show _ <= (9223372036854775807 : Int); omega)
   rw [if_pos (by omega), if_pos (by omega), hgd, clone_int _ (hg _ (List.getElem_mem hk'))]
   simp only [Option.bind_some]
   have e : l.set (k : Int).toNat l[k] = l := by rw [Int.toNat_natCast]; simp
   rw [if_pos (by omega)]
   show zc4 v fu (l.set (k : Int).toNat l[k]) (wr .i64 ((k : Int) + 1)) = _
   rw [e, hw]
   exact ih (k + 1) l hl (by omega) (by omega) hg
  ·rw [if_neg (by omega), if_pos (by omega)]
theorem twin_sk (s : TSkeen) (h1 : s.Waits.length <= 1000) (h2 : s.Done.length <= 1000) (h3 : ∀ w ∈ s.Waits, w.Message.Groups.length * 8 <= 140737488355328) : zcg s = some s := by
 rw [zcg, zd2, if_pos (by omega), zcs, if_pos (by omega)]
 simp only [Option.bind_some]
 have := twin_loop s.Waits (by omega) (s.Waits.length + 1) 0 s.Waits rfl (by omega) (by omega) h3
 rw [show ((0 : Nat) : Int) = 0 from rfl] at this
 rw [this]
 rfl
structure J (c : Int) (W : List TWait) (D : List TStamp) : Prop where
 c1 : c <= 1073741824
 d : DOk c D
 w : WOk c D W
theorem V.j {s : TSkeen} (h : V s) : J s.Clock s.Waits s.Done := ⟨h.c1, h.d, h.w⟩
theorem J.ids {c : Int} {W : List TWait} {D : List TStamp} (h : J c W D) : ∀ w ∈ W, IdOk w.Message.Id := fun w hw => (h.w.1 w hw).1.id
theorem J.mono {c c' : Int} {W : List TWait} {D : List TStamp} (h : J c W D) (h1 : c <= c') (h2 : c' <= 1073741824) : J c' W D :=
 ⟨h2, ⟨fun x hx => by have := h.d.1 x hx; exact ⟨this.1, this.2.1, by omega⟩, h.d.2⟩, ⟨fun w hw => by have := h.w.1 w hw; exact ⟨this.1, this.2.1, by have := this.2.2.1; omega, this.2.2.2⟩, h.w.2⟩⟩
theorem at_id {W : List TWait} (hu : IdsUp W) {a b : TWait} (ha : a ∈ W) (hb : b ∈ W) (h : a.Message.Id = b.Message.Id) : a = b := by
 obtain ⟨i, hi, rfl⟩ := List.getElem_of_mem ha
 obtain ⟨j, hj, rfl⟩ := List.getElem_of_mem hb
 rcases Nat.lt_trichotomy i j with hh | hh | hh
 ·have := List.pairwise_iff_getElem.1 hu i j hi hj hh; omega
 ·subst hh; rfl
 ·have := List.pairwise_iff_getElem.1 hu j i hj hi hh; omega
theorem final_eq (s : TSkeen) (id t : Int) (hl : s.Waits.length < 1000000) (hj : J s.Clock s.Waits s.Done) (hi : IdOk id) :
  (zbj ⟨s⟩ id t = some ⟨s⟩ /\ ∀ w ∈ s.Waits, w.Message.Id = id -> w.Final = true \/ t < w.Time) \/
  ∃ (k : Nat) (hk : k < s.Waits.length), s.Waits[k].Message.Id = id /\ s.Waits[k].Final = false /\ s.Waits[k].Time <= t /\ zbj ⟨s⟩ id t = some ⟨⟨max s.Clock t, s.Waits.set k ⟨s.Waits[k].Message, t, true⟩, s.Done⟩⟩ := by
 rw [zbj, find_eq ⟨s⟩ id hl hj.w.2 hj.ids hi]
 simp only [Option.bind_some]
 have hp := plc_at id s.Waits hj.w.2
 by_cases hx : ∃ w ∈ s.Waits, w.Message.Id = id
 ·obtain ⟨hk, he⟩ := hp.1 hx
  have hgd : s.Waits.getD ((plc id s.Waits : Nat) : Int).toNat default = s.Waits[plc id s.Waits] := by rw [Int.toNat_natCast]; simp [List.getD, List.getElem?_eq_getElem hk]
  have hgd2 : ∀ x : TWait, (s.Waits.set ((plc id s.Waits : Nat) : Int).toNat x).getD ((plc id s.Waits : Nat) : Int).toNat default = x := by
   intro x; rw [Int.toNat_natCast]; simp [List.getD, hk]
  simp only [hx, decide_true, not_true_eq_false, not_false_eq_true, false_or, hgd, hgd2]
  rw [if_pos (by intro _; omega), if_pos (by intro _; omega)]
  by_cases hf : s.Waits[plc id s.Waits].Final = true \/ t < s.Waits[plc id s.Waits].Time
  ·left
   rw [if_pos hf]
   refine ⟨rfl, fun w hw hid => ?_⟩
   have := at_id hj.w.2 hw (List.getElem_mem hk) (hid.trans he.symm)
   rw [this]; exact hf
  ·right
   rw [if_neg hf, if_pos (by omega), if_pos (by simp only [List.length_set]; omega)]
   refine ⟨plc id s.Waits, hk, he, ?_, by omega, ?_⟩
   ·cases hq : s.Waits[plc id s.Waits].Final with
    | false => rfl
    | true => exact absurd (.inl hq) hf
   ·rw [Int.toNat_natCast, List.set_set]
 ·left
  have hx' : ∀ w ∈ s.Waits, w.Message.Id ≠ id := fun w hw he => hx ⟨w, hw, he⟩
  simp only [hx, decide_false, Bool.false_eq_true, not_false_eq_true, not_true_eq_false, false_implies, if_true, true_or]
  exact ⟨trivial, fun w hw he => absurd he (hx' w hw)⟩
theorem J.set {c t : Int} {W : List TWait} {D : List TStamp} (h : J c W D) (k : Nat) (hk : k < W.length) (h1 : W[k].Time <= t) (h2 : t <= 1073741824) : J (max c t) (W.set k ⟨W[k].Message, t, true⟩) D := by
 have h' := h.mono (c' := max c t) (Int.le_max_left _ _) (by have := h.c1; omega)
 refine ⟨h'.c1, h'.d, fun w hw => ?_, ?_⟩
 ·rcases List.mem_or_eq_of_mem_set hw with hw | rfl
  ·exact h'.w.1 w hw
  ·have hm := h'.w.1 _ (List.getElem_mem hk)
   refine ⟨hm.1, by have := hm.2.1; show 1 <= t; omega, Int.le_max_right _ _, hm.2.2.2.1, fun x hx => ?_⟩
   have hl := hm.2.2.2.2 x hx
   show ltS x ⟨t, W[k].Message.Id⟩
   unfold ltS stW at *
   simp only at hl ⊢
   omega
 ·have hu := h.w.2
  unfold IdsUp at hu ⊢
  rw [<- List.pairwise_map (f := fun w : TWait => w.Message.Id) (R := fun a b => a < b)] at hu ⊢
  rw [List.map_set]
  have : (W.map fun w : TWait => w.Message.Id).set k W[k].Message.Id = W.map fun w : TWait => w.Message.Id := by
   apply List.ext_getElem
   ·simp
   ·intro i h1 h2
    rw [List.getElem_set]
    split
    ·rename_i e; subst e; simp
    ·rfl
  rw [this]
  exact hu
theorem assign_eq (s : TSkeen) (g : Int) (m : TMessage) (hl : s.Waits.length <= 200) (hc0 : 0 <= s.Clock) (hj : J s.Clock s.Waits s.Done) (hm : MsgOk m) :
  (∃ e, zbk ⟨s⟩ g m = some (e, ⟨s⟩)) \/
  (g ∈ m.Groups /\ s.Clock < 1073741824 /\ s.Waits.length < 200 /\ (∀ x ∈ s.Done, x.Id ≠ m.Id) /\ (∀ w ∈ s.Waits, w.Message.Id ≠ m.Id) /\
   zbk ⟨s⟩ g m = some (0, ⟨⟨s.Clock + 1, s.Waits.take (plc m.Id s.Waits) ++ ⟨m, s.Clock + 1, false⟩ :: s.Waits.drop (plc m.Id s.Waits), s.Done⟩⟩)) := by
 rw [zbk, find_eq ⟨s⟩ m.Id (by show s.Waits.length < 1000000; omega) hj.w.2 hj.ids hm.id, done_eq]
 simp only [Option.bind_some]
 by_cases hx : ∃ w ∈ s.Waits, w.Message.Id = m.Id
 ·left
  simp only [hx, decide_true, not_true_eq_false, if_false, true_or, Option.bind_some, if_true]
  exact ⟨0, rfl⟩
 ·have hx' : ∀ w ∈ s.Waits, w.Message.Id ≠ m.Id := fun w hw he => hx ⟨w, hw, he⟩
  simp only [hx, decide_false, Bool.false_eq_true, not_false_eq_true, if_true, false_or, Option.bind_some]
  cases hd : s.Done.any fun x => x.Id == m.Id with
  | true =>
   left
   simp only [not_true_eq_false, if_false, Option.bind_some, true_or, if_true]
   exact ⟨0, rfl⟩
  | false =>
   have hd' : ∀ x ∈ s.Done, x.Id ≠ m.Id := by
    intro x hxd he
    have := List.any_eq_false.1 hd x hxd
    simp [he] at this
   have hg := contains_eq m.Groups g
   simp only [Bool.false_eq_true, not_false_eq_true, if_true, false_or, Option.bind_some, hg]
   by_cases hgm : g ∈ m.Groups
   ·simp only [hgm, decide_true, not_true_eq_false, if_false]
    by_cases hfull : s.Clock = 1073741824 \/ (s.Waits.length : Int) = 200
    ·left; rw [if_pos hfull]; exact ⟨9, rfl⟩
    ·right
     have hc1 := hj.c1
     rw [if_neg hfull, clone_int _ (by have := hm.groups; omega)]
     simp only [Option.bind_some]
     have hple := plc_le m.Id s.Waits
     rw [if_pos (by omega), if_pos (by omega), wr_eq _ _ (by show (-9223372036854775808 : Int) <= _; omega) (by show _ <= (9223372036854775807 : Int); omega), Int.toNat_natCast]
     exact ⟨trivial, by omega, by omega, hd', hx', rfl⟩
   ·left
    simp only [hgm, decide_false, Bool.false_eq_true, not_false_eq_true, if_true]
    exact ⟨0, rfl⟩
theorem J.ins {c : Int} {W : List TWait} {D : List TStamp} (h : J c W D) (m : TMessage) (hm : MsgOk m) (h0 : 0 <= c) (h1 : c < 1073741824) (hD : ∀ x ∈ D, x.Id ≠ m.Id) (hW : ∀ w ∈ W, w.Message.Id ≠ m.Id) :
  J (c + 1) (W.take (plc m.Id W) ++ ⟨m, c + 1, false⟩ :: W.drop (plc m.Id W)) D := by
 have h' := h.mono (c' := c + 1) (by omega) (by omega)
 refine ⟨h'.c1, h'.d, fun w hw => ?_, ?_⟩
 ·have : w = ⟨m, c + 1, false⟩ \/ w ∈ W := by
   rcases List.mem_append.1 hw with hw | hw
   ·exact .inr (List.mem_of_mem_take hw)
   ·rcases List.mem_cons.1 hw with hw | hw
    ·exact .inl hw
    ·exact .inr (List.mem_of_mem_drop hw)
  rcases this with rfl | hw
  ·refine ⟨hm, by show 1 <= c + 1; omega, Int.le_refl _, hD, fun x hx => ?_⟩
   have := (h.d.1 x (List.mem_of_getLast? hx)).2.2
   exact .inl (by show x.Time < c + 1; omega)
  ·exact h'.w.1 w hw
 ·have hu := h.w.2
  have hlt := plc_lt m.Id W hu
  have hple := plc_le m.Id W
  have t1 : ∀ w ∈ W.take (plc m.Id W), w.Message.Id < m.Id := by
   intro w hw
   obtain ⟨i, hi, rfl⟩ := List.getElem_of_mem hw
   rw [List.getElem_take]
   have : i < plc m.Id W := by simp at hi; omega
   exact (hlt i (by omega)).2 this
  have t2 : ∀ w ∈ W.drop (plc m.Id W), m.Id < w.Message.Id := by
   intro w hw
   have hwW := List.mem_of_mem_drop hw
   obtain ⟨i, hi, rfl⟩ := List.getElem_of_mem hw
   have hne := hW _ hwW
   rw [List.getElem_drop] at hne ⊢
   have hi' : plc m.Id W + i < W.length := by simp at hi; omega
   have : ¬ W[plc m.Id W + i].Message.Id < m.Id := fun k => by have := (hlt _ hi').1 k; omega
   omega
  unfold IdsUp
  rw [List.pairwise_append]
  refine ⟨hu.sublist (List.take_sublist _ _), List.pairwise_cons.2 ⟨t2, hu.sublist (List.drop_sublist _ _)⟩, fun a ha b hb => ?_⟩
  have ha' := t1 a ha
  rcases List.mem_cons.1 hb with rfl | hb
  ·exact ha'
  ·have := t2 b hb; omega
theorem del_loop (c0 : Tskeen_clock) (c : Int) : ∀ (fu : Nat) (W : List TWait) (D : List TStamp) (M : List TMessage), W.length < fu -> J c W D -> W.length + D.length <= 1000 -> M.length + W.length <= 1000 ->
  ∃ (ws W' : List TWait), zan c0 fu W D M = some (W', D ++ ws.map stW, M ++ ws.map TWait.Message) /\ J c W' (D ++ ws.map stW) /\ (∀ y l, W' = y :: l -> (minW y l).Final = false) /\
   (∀ w ∈ ws, w ∈ W /\ w.Final = true) /\ (∀ w ∈ W', w ∈ W) /\ (∀ w ∈ W, w ∈ W' \/ w ∈ ws) /\ W'.length + ws.length = W.length := by
 intro fu
 induction fu with
 | zero => intro W D M h; omega
 | succ fu ih =>
  intro W D M h hj h1 h2
  rw [zan]
  cases hW : W with
  | nil =>
   refine ⟨[], [], by simp, by subst hW; simpa using hj, by simp, by simp, by simp, by simp, rfl⟩
  | cons y l =>
   rw [if_pos (by simp only [List.length_cons]; omega), minw_eq y l (by rw [hW] at h1; simp at h1; omega)]
   simp only [Option.bind_some]
   have hmem : minW y l ∈ W := by
    rw [hW]
    rcases minW_mem l y with hh | hh
    ·rw [hh]; simp
    ·exact List.mem_cons_of_mem _ hh
   by_cases hf : (minW y l).Final = true
   ·rw [if_neg (by simp [hf])]
    have hfd := find_eq ⟨⟨c0.Skeen.Clock, W, D⟩⟩ (minW y l).Message.Id (by show W.length < 1000000; omega) hj.w.2 hj.ids (hj.ids _ hmem)
    rw [<- hW, hfd]
    simp only [Option.bind_some]
    obtain ⟨hk, he⟩ := (plc_at (minW y l).Message.Id W hj.w.2).1 ⟨_, hmem, rfl⟩
    generalize hK : plc (minW y l).Message.Id W = K at hk he
    have hat : W[K] = minW y l := at_id hj.w.2 (List.getElem_mem hk) hmem he
    rw [if_pos (by omega), if_pos (by omega)]
    have e1 : zdy (minW y l) = some (stW (minW y l)) := rfl
    rw [e1]
    simp only [Option.bind_some, List.length_cons, List.length_nil, Int.toNat_natCast]
    have hWl : W.length = l.length + 1 := by rw [hW]; simp
    rw [if_pos (by omega), if_pos (by omega)]
    have hv := hj.w.1 _ hmem
    have hsub : ∀ w ∈ W.eraseIdx K, w ∈ W := fun w hw => List.mem_of_mem_eraseIdx hw
    have hne : ∀ w ∈ W.eraseIdx K, w.Message.Id ≠ (minW y l).Message.Id := by
     intro w hw hid
     obtain ⟨i, hi, hik, rfl⟩ := List.mem_eraseIdx_iff_getElem.1 hw
     have e2 := at_id hj.w.2 (List.getElem_mem hi) hmem hid
     rw [<- hat] at hid
     rcases Nat.lt_or_gt_of_ne hik with hh | hh
     ·have := List.pairwise_iff_getElem.1 hj.w.2 i K hi hk hh; omega
     ·have := List.pairwise_iff_getElem.1 hj.w.2 K i hk hi hh; omega
    have hle : ∀ w ∈ W, ¬ ltS (stW w) (stW (minW y l)) := by
     intro w hw
     rw [hW] at hw
     rcases List.mem_cons.1 hw with rfl | hw
     ·exact (minW_le l _).1
     ·exact (minW_le l y).2 w hw
    have hid := hv.1.id
    have hJ : J c (W.eraseIdx K) (D ++ [stW (minW y l)]) := by
     refine ⟨hj.c1, (hj.d.snoc _).2 ⟨⟨⟨?_, ?_, hid.1, ?_⟩, hv.2.1, hv.2.2.1⟩, hv.2.2.2.2, fun hm => ?_⟩, fun w hw => ?_, hj.w.2.sublist (List.eraseIdx_sublist _ _)⟩
     ·have := hv.2.1; show 0 <= (minW y l).Time; omega
     ·have := hv.2.2.1; have := hj.c1; show (minW y l).Time <= 1073741824; omega
     ·have := hid.2; show (minW y l).Message.Id < 6291456; omega
     ·obtain ⟨x, hx, he2⟩ := List.mem_map.1 hm
      exact hv.2.2.2.1 x hx he2
     ·have hw1 := hj.w.1 w (hsub w hw)
      refine ⟨hw1.1, hw1.2.1, hw1.2.2.1, fun x hx => ?_, fun x hx => ?_⟩
      ·rcases List.mem_append.1 hx with hx | hx
       ·exact hw1.2.2.2.1 x hx
       ·simp at hx; subst hx; exact fun e => hne w hw e.symm
      ·simp at hx; subst hx
       exact ltS_total (fun e => hne w hw e.symm) (hle w (hsub w hw))
    have hlen : (W.eraseIdx K).length = W.length - 1 := List.length_eraseIdx_of_lt hk
    obtain ⟨ws, W', g1, g2, g3, g4, g5, g6, g7⟩ := ih (W.eraseIdx K) (D ++ [stW (minW y l)]) (M ++ [(minW y l).Message]) (by omega) hJ (by simp; omega) (by simp; omega)
    refine ⟨minW y l :: ws, W', ?_, ?_, g3, ?_, ?_, ?_, ?_⟩
    ·rw [g1]; simp
    ·simpa using g2
    ·intro w hw
     rcases List.mem_cons.1 hw with rfl | hw
     ·exact ⟨hmem, hf⟩
     ·exact ⟨hsub w (g4 w hw).1, (g4 w hw).2⟩
    ·intro w hw; exact hsub w (g5 w hw)
    ·intro w hw
     by_cases hwv : w = minW y l
     ·right; simp [hwv]
     ·have : w ∈ W.eraseIdx K := by
       obtain ⟨i, hi, rfl⟩ := List.getElem_of_mem hw
       exact List.mem_eraseIdx_iff_getElem.2 ⟨i, hi, fun e => hwv (by subst e; exact hat), rfl⟩
      rcases g6 w this with hh | hh
      ·exact .inl hh
      ·exact .inr (List.mem_cons_of_mem _ hh)
    ·simp only [List.length_cons]; omega
   ·rw [if_pos (by simpa using hf)]
    refine ⟨[], W, by simp [hW], by simpa using hj, fun y' l' hh => ?_, by simp, by intro w hw; rw [<- hW]; exact hw, by intro w hw; left; rw [hW]; exact hw, by simp [hW]⟩
    rw [hW] at hh; cases hh; simpa using hf
def Step (s : TSkeen) (g : Int) (c : TCommand) (W : List TWait) (ck : Int) : Prop :=
 (W = s.Waits /\ ck = s.Clock) \/
 (c.Kind = 1 /\ g ∈ c.Message.Groups /\ ck = s.Clock + 1 /\ W = s.Waits.take (plc c.Message.Id s.Waits) ++ ⟨c.Message, s.Clock + 1, false⟩ :: s.Waits.drop (plc c.Message.Id s.Waits)) \/
 (c.Kind = 2 /\ ck = max s.Clock c.Time /\ ∃ (k : Nat) (hk : k < s.Waits.length), s.Waits[k].Message.Id = c.Id /\ s.Waits[k].Final = false /\ s.Waits[k].Time <= c.Time /\ W = s.Waits.set k ⟨s.Waits[k].Message, c.Time, true⟩)
def zSk : TSkeen := ⟨0, [], []⟩
theorem check_ok {s : TSkeen} (h : V s) : zer s = some 0 := by
 obtain ⟨e, he, hi⟩ := sk_check s
 rw [he, hi.2 h]
theorem apply_ok (s : TSkeen) (g : Int) (c : TCommand) (h : V s) :
  (∃ e, e ≠ 0 /\ zbr s g c = some (zSk, [], e) /\ (0 <= g /\ g < 4 -> zbw c = some 0 -> c.Kind = 2 -> s.Waits.length + s.Done.length > 200)) \/
  ∃ (W : List TWait) (ck : Int) (ws W' : List TWait), Step s g c W ck /\ zbr s g c = some (⟨ck, W', s.Done ++ ws.map stW⟩, ws.map TWait.Message, 0) /\ V ⟨ck, W', s.Done ++ ws.map stW⟩ /\ s.Clock <= ck /\ 
   (∀ w ∈ ws, w ∈ W /\ w.Final = true) /\ (∀ w ∈ W', w ∈ W) /\ (∀ w ∈ W, w ∈ W' \/ w ∈ ws) /\ W'.length + ws.length = W.length /\ 
   (c.Kind = 2 -> ∀ w ∈ s.Waits, w.Message.Id = c.Id -> w.Final = false -> w.Time <= c.Time -> ∃ (k : Nat) (hk : k < s.Waits.length), s.Waits[k] = w /\ W = s.Waits.set k ⟨w.Message, c.Time, true⟩) := by
 have hj := h.j
 have hlw := h.lw
 have hld := h.ld
 rw [zbr, check_ok h]
 simp only [Option.bind_some, not_true_eq_false, if_false]
 by_cases hg : g < 0 \/ g >= 4
 ·rw [if_pos hg]
  exact .inl ⟨2, by omega, rfl, by intro h; omega⟩
 rw [if_neg hg]
 obtain ⟨e, he, hc⟩ := cmd_tot c
 rw [he]
 simp only [Option.bind_some]
 by_cases he0 : e = 0
 case neg => rw [if_pos he0]; exact .inl ⟨e, he0, rfl, by intro _ h; exact absurd (Option.some.inj h) he0⟩
 obtain ⟨hc1, hc2⟩ := hc he0
 have htw : zcg s = some s := twin_sk s (by omega) (by omega) (fun w hw => by have := (hj.w.1 w hw).1.groups; omega)
 rw [if_neg (by omega), htw]
 simp only [Option.bind_some]
 -- the end: what is delivered
 have fin : ∀ (W : List TWait) (ck : Int), J ck W s.Done -> 0 <= ck -> W.length <= 200 -> ∃ (ws W' : List TWait), zbt ⟨⟨ck, W, s.Done⟩⟩ = some (ws.map TWait.Message, ⟨⟨ck, W', s.Done ++ ws.map stW⟩⟩) /\
   ((s.Done ++ ws.map stW).length <= 200 -> V ⟨ck, W', s.Done ++ ws.map stW⟩) /\ (∀ w ∈ ws, w ∈ W /\ w.Final = true) /\ (∀ w ∈ W', w ∈ W) /\ (∀ w ∈ W, w ∈ W' \/ w ∈ ws) /\ W'.length + ws.length = W.length := by
  intro W ck hJ h0 hl
  obtain ⟨ws, W', g1, g2, g3, g4, g5, g6, g7⟩ := del_loop ⟨⟨ck, W, s.Done⟩⟩ ck (W.length + 1) W s.Done [] (by omega) hJ (by omega) (by simp; omega)
  refine ⟨ws, W', ?_, fun hd => ⟨h0, g2.c1, by show W'.length <= 200; omega, hd, g2.d, g2.w, g3⟩, g4, g5, g6, g7⟩
  rw [zbt, g1]
  simp
 by_cases k1 : c.Kind = 1
 ·rw [if_pos k1]
  rcases assign_eq s g c.Message hlw h.c0 hj (hc1 k1) with ⟨e2, ha⟩ | ⟨a1, a2, a3, a4, a5, ha⟩
  ·have ha' : zbk ⟨s⟩ g c.Message = _ := ha
   rw [ha']
   simp only [Option.bind_some]
   by_cases he2 : e2 = 0
   ·rw [if_neg (by omega)]
    simp only [Option.bind_some]
    obtain ⟨ws, W', d1, d2, d3, d4, d5, d6⟩ := fin s.Waits s.Clock hj h.c0 hlw
    rw [d1]
    simp only [Option.bind_some]
    by_cases hfull : ((s.Done ++ ws.map stW).length : Int) > 200
    ·rw [if_pos hfull]; exact .inl ⟨9, by omega, rfl, by intro _ _ h; omega⟩
    ·rw [if_neg hfull]
     exact .inr ⟨s.Waits, s.Clock, ws, W', .inl ⟨rfl, rfl⟩, rfl, d2 (by omega), Int.le_refl _, d3, d4, d5, d6, by intro h; omega⟩
   ·rw [if_pos he2]
    exact .inl ⟨e2, he2, rfl, by intro _ _ h; omega⟩
  ·have ha' : zbk ⟨s⟩ g c.Message = _ := ha
   rw [ha']
   simp only [Option.bind_some, not_true_eq_false, if_false]
   have hpl := plc_le c.Message.Id s.Waits
   obtain ⟨ws, W', d1, d2, d3, d4, d5, d6⟩ := fin _ _ (hj.ins c.Message (hc1 k1) h.c0 a2 a4 a5) (by have := h.c0; omega) (by simp; omega)
   rw [d1]
   simp only [Option.bind_some]
   by_cases hfull : ((s.Done ++ ws.map stW).length : Int) > 200
   ·rw [if_pos hfull]; exact .inl ⟨9, by omega, rfl, by intro _ _ h; omega⟩
   ·rw [if_neg hfull]
    exact .inr ⟨_, s.Clock + 1, ws, W', .inr (.inl ⟨k1, a1, rfl, rfl⟩), rfl, d2 (by omega), by omega, d3, d4, d5, d6, by intro h; omega⟩
 rw [if_neg k1]
 by_cases k2 : c.Kind = 2
 ·rw [if_pos k2]
  obtain ⟨i1, i2, i3⟩ := hc2 k2
  rcases final_eq s c.Id c.Time (by omega) hj i1 with ⟨hf, hno⟩ | ⟨k, hk, b1, b2, b3, hf⟩
  ·have hf' : zbj ⟨s⟩ c.Id c.Time = _ := hf
   rw [hf']
   simp only [Option.bind_some]
   obtain ⟨ws, W', d1, d2, d3, d4, d5, d6⟩ := fin s.Waits s.Clock hj h.c0 hlw
   rw [d1]
   simp only [Option.bind_some]
   by_cases hfull : ((s.Done ++ ws.map stW).length : Int) > 200
   ·rw [if_pos hfull]
    refine .inl ⟨9, by omega, rfl, fun _ _ _ => ?_⟩
    simp at hfull; omega
   ·rw [if_neg hfull]
    refine .inr ⟨s.Waits, s.Clock, ws, W', .inl ⟨rfl, rfl⟩, rfl, d2 (by omega), Int.le_refl _, d3, d4, d5, d6, fun _ w hw hid hfn ht => ?_⟩
    rcases hno w hw hid with hh | hh
    ·rw [hfn] at hh; cases hh
    ·omega
  ·have hf' : zbj ⟨s⟩ c.Id c.Time = _ := hf
   rw [hf']
   simp only [Option.bind_some]
   obtain ⟨ws, W', d1, d2, d3, d4, d5, d6⟩ := fin _ _ (hj.set k hk b3 i3) (by have := h.c0; have := Int.le_max_left s.Clock c.Time; omega) (by simpa using hlw)
   rw [d1]
   simp only [Option.bind_some]
   by_cases hfull : ((s.Done ++ ws.map stW).length : Int) > 200
   ·rw [if_pos hfull]
    refine .inl ⟨9, by omega, rfl, fun _ _ _ => ?_⟩
    simp at hfull d6; omega
   ·rw [if_neg hfull]
    refine .inr ⟨_, max s.Clock c.Time, ws, W', .inr (.inr ⟨k2, rfl, k, hk, b1, b2, b3, rfl⟩), rfl, d2 (by omega), Int.le_max_left _ _, d3, d4, d5, d6, fun _ w hw hid hfn ht => ?_⟩
    have := at_id hj.w.2 hw (List.getElem_mem hk) (hid.trans b1.symm)
    exact ⟨k, hk, this.symm, by rw [this]⟩
 ·rw [if_neg k2]
  simp only [Option.bind_some]
  obtain ⟨ws, W', d1, d2, d3, d4, d5, d6⟩ := fin s.Waits s.Clock hj h.c0 hlw
  rw [d1]
  simp only [Option.bind_some]
  by_cases hfull : ((s.Done ++ ws.map stW).length : Int) > 200
  ·rw [if_pos hfull]; exact .inl ⟨9, by omega, rfl, by intro _ _ h; omega⟩
  ·rw [if_neg hfull]
   exact .inr ⟨s.Waits, s.Clock, ws, W', .inl ⟨rfl, rfl⟩, rfl, d2 (by omega), Int.le_refl _, d3, d4, d5, d6, by intro h; omega⟩
end Go.Proofs
end
section
namespace Go.Proofs
open Go.Tm
set_option linter.unusedSimpArgs false
set_option linter.unusedVariables false
theorem wr_ok (x : Int) (h : -9000000000000000000 <= x /\ x <= 9000000000000000000) : wr .i64 x = x := wr_eq _ _ (by show (-9223372036854775808 : Int) <= _; omega) (by show _ <= (9223372036854775807 : Int); omega)
end Go.Proofs
end
section
namespace Go.Proofs
open Go.Tm
set_option linter.unusedSimpArgs false
theorem nin_tot (n : Int) : ∃ b, zha n = some b /\ (b = true -> 0 <= n /\ n <= 1099511627776) := by
 rw [zha]
 refine ⟨_, rfl, fun h => ?_⟩
 simp at h
 omega
structure GetOk (l : List Int) (r : Int × Int × Int) : Prop where
 s0 : 0 <= r.2.1
 s1 : r.2.1 <= l.length
 n0 : r.2.2 = 0 -> 0 <= r.1 /\ r.1 <= 1099511627776
theorem get_loop : ∀ (l : List Int) (k : Nat) (n : Int), (∃ u, zbu l k n = some (.inr u)) \/ ∃ a b, zbu l k n = some (.inl (a, b, 0)) /\ 0 <= b /\ b <= k + l.length /\ 0 <= a /\ a <= 1099511627776 := by
 intro l
 induction l with
 | nil => intro k n; exact .inl ⟨(), rfl⟩
 | cons y l ih =>
  intro k n
  rw [zbu]
  by_cases h5 : (k : Int) > 5
  ·rw [if_pos h5]; exact .inl ⟨(), rfl⟩
  rw [if_neg h5, if_pos (by rw [wr_ok _ (by omega)]; omega)]
  by_cases h7 : y > 127
  ·rw [if_pos h7]
   rcases ih (k + 1) _ with h | ⟨a, b, h, h1, h2, h3⟩
   ·exact .inl h
   ·exact .inr ⟨a, b, h, h1, by simp only [List.length_cons]; omega, h3⟩
  ·rw [if_neg h7]
   by_cases h0 : y = 0 /\ (k : Int) > 0
   ·rw [if_neg (fun h => h h0)]
    simp only [Option.bind_some]
    rw [if_pos (.inl h0)]
    exact .inl ⟨(), rfl⟩
   ·rw [if_pos h0]
    obtain ⟨b, hb, hb2⟩ := nin_tot (bitw .or .i64 n (shw true .i64 (wr .i64 (bitw .and .u8 y 127)) (wr .i64 (7 * (k : Int)))))
    rw [hb]
    simp only [Option.bind_some]
    by_cases hbt : b = true
    ·rw [if_neg (by rintro (h | h); exact h0 h; exact h hbt), wr_ok ((k : Int) + 1) (by omega)]
     exact .inr ⟨_, _, rfl, by omega, by simp only [List.length_cons]; omega, hb2 hbt⟩
    ·rw [if_pos (.inr hbt)]
     exact .inl ⟨(), rfl⟩
theorem get_tot (l : List Int) : ∃ r, zf2 l = some r /\ GetOk l r := by
 rw [zf2]
 rcases get_loop l 0 0 with ⟨u, h⟩ | ⟨a, b, h, h1, h2, h3⟩
 ·rw [h]; exact ⟨_, rfl, by show (0 : Int) <= 0; omega, by show (0 : Int) <= _; omega, by intro h; cases h⟩
 ·rw [h]; exact ⟨_, rfl, h1, by show b <= _; omega, fun _ => h3⟩
theorem gettext_tot (l : List Int) (hl : l.length <= 1000000) : ∃ r, zfr l = some r /\ 0 <= r.2.1 /\ r.2.1 <= l.length := by
 obtain ⟨v, hv, ho⟩ := get_tot l
 have h1 := ho.s0
 have h2 := ho.s1
 rw [zfr, hv]
 simp only [Option.bind_some]
 by_cases hc : (¬ v.2.2 = 0 \/ v.1 > 4096) \/ v.1 > wr .i64 ((l.length : Int) - v.2.1)
 ·rw [if_pos hc]; exact ⟨_, rfl, by show (0 : Int) <= 0; omega, by show (0 : Int) <= _; omega⟩
 ·rw [if_neg hc]
  rw [wr_ok _ (by omega)] at hc
  have h3 := ho.n0 (by omega)
  rw [wr_ok _ (by omega), if_pos (by omega)]
  exact ⟨_, rfl, by show (0 : Int) <= v.2.1 + v.1; omega, by show v.2.1 + v.1 <= _; omega⟩
theorem getints_loop (l : List Int) (hl : l.length <= 1000000) (v : Int × Int × Int) : ∀ (fu : Nat) (acc : List Int) (at' k : Int), (v.1 - k).toNat < fu -> 0 <= at' -> at' <= l.length -> 0 <= k -> v.1 <= 4096 -> (acc.length : Int) <= k ->
  (∃ e, zbv l v fu acc at' k = some (.inl ([], 0, e))) \/ ∃ acc' at2, zbv l v fu acc at' k = some (.inr (acc', at2)) /\ 0 <= at2 /\ at2 <= l.length := by
 intro fu
 induction fu with
 | zero => intro acc at' k h; omega
 | succ fu ih =>
  intro acc at' k h h0 h1 hk hv ha
  rw [zbv]
  by_cases hlt : k < v.1
  ·obtain ⟨r, hr, ho⟩ := get_tot (l.drop at'.toNat)
   have q1 := ho.s0
   have q2 := ho.s1
   simp only [List.length_drop] at q2
   rw [if_pos hlt, if_pos ⟨h0, h1⟩, hr]
   simp only [Option.bind_some]
   by_cases he : ¬ r.2.2 = 0
   ·rw [if_pos he]; exact .inl ⟨_, rfl⟩
   ·rw [if_neg he, if_pos (by simp; omega), wr_ok (at' + r.2.1) (by omega), wr_ok (k + 1) (by omega)]
    exact ih _ _ _ (by omega) (by omega) (by omega) (by omega) hv (by simp; omega)
  ·rw [if_neg hlt]; exact .inr ⟨_, _, rfl, h0, h1⟩
theorem getints_tot (l : List Int) (hl : l.length <= 1000000) (m : Int) : ∃ r, zfs l m = some r /\ 0 <= r.2.1 /\ r.2.1 <= l.length := by
 rw [zfs]
 by_cases hm : m < 0 \/ m > 4096
 ·rw [if_pos hm]; exact ⟨_, rfl, by show (0 : Int) <= 0; omega, by show (0 : Int) <= _; omega⟩
 rw [if_neg hm]
 obtain ⟨v, hv, ho⟩ := get_tot l
 rw [hv]
 simp only [Option.bind_some]
 by_cases hc : ¬ v.2.2 = 0 \/ v.1 > m
 ·rw [if_pos hc]; exact ⟨_, rfl, by show (0 : Int) <= 0; omega, by show (0 : Int) <= _; omega⟩
 rw [if_neg hc]
 rcases getints_loop l hl v (v.1.toNat + 1) [] v.2.1 0 (by omega) ho.s0 ho.s1 (by omega) (by omega) (by simp) with ⟨e, h⟩ | ⟨a, b, h, h1, h2⟩
 ·rw [h]; exact ⟨_, rfl, by show (0 : Int) <= 0; omega, by show (0 : Int) <= _; omega⟩
 ·rw [h]; exact ⟨_, rfl, h1, h2⟩
theorem take_tot (r : Tcommand_reader) (n e : Int) (h : 0 <= n) : ∃ r', zbh r n e = some r' /\ r'.fB.length <= r.fB.length := by
 rw [zbh, if_pos (by omega)]
 exact ⟨_, rfl, by simp⟩
theorem zeh (r : Tcommand_reader) : ∃ x, zae r = some x /\ x.2.fB.length <= r.fB.length := by
 obtain ⟨v, hv, ho⟩ := get_tot r.fB
 obtain ⟨r', h1, h2⟩ := take_tot r v.2.1 v.2.2 ho.s0
 rw [zae, hv]
 simp only [Option.bind_some, h1]
 exact ⟨_, rfl, h2⟩
theorem text_tot (r : Tcommand_reader) (hl : r.fB.length <= 1000000) : ∃ x, zch r = some x /\ x.2.fB.length <= r.fB.length := by
 obtain ⟨v, hv, h0, _⟩ := gettext_tot r.fB hl
 obtain ⟨r', h1, h2⟩ := take_tot r v.2.1 v.2.2 h0
 rw [zch, hv]
 simp only [Option.bind_some, h1]
 exact ⟨_, rfl, h2⟩
theorem ints_tot (r : Tcommand_reader) (hl : r.fB.length <= 1000000) (m : Int) : ∃ x, zci r m = some x /\ x.2.fB.length <= r.fB.length := by
 obtain ⟨v, hv, h0, _⟩ := getints_tot r.fB hl m
 obtain ⟨r', h1, h2⟩ := take_tot r v.2.1 v.2.2 h0
 rw [zci, hv]
 simp only [Option.bind_some, h1]
 exact ⟨_, rfl, h2⟩
theorem command_tot (r : Tcommand_reader) (hl : r.fB.length <= 1000000) : ∃ x, zbf r = some x := by
 obtain ⟨v1, h1, l1⟩ := zeh r
 rw [zbf, h1]
 simp only [Option.bind_some]
 by_cases k1 : wr .u8 (min v1.1 255) = 1
 ·obtain ⟨v2, h2, l2⟩ := zeh v1.2
  obtain ⟨v3, h3, l3⟩ := ints_tot v2.2 (by omega) 4
  obtain ⟨v4, h4, l4⟩ := zeh v3.2
  obtain ⟨v5, h5, l5⟩ := text_tot v4.2 (by omega)
  obtain ⟨v6, h6, l6⟩ := text_tot v5.2 (by omega)
  simp only [k1, if_true, h2, h3, h4, h5, h6, Option.bind_some]
  exact ⟨_, rfl⟩
 by_cases k2 : wr .u8 (min v1.1 255) = 2
 ·obtain ⟨v2, h2, l2⟩ := zeh v1.2
  obtain ⟨v3, h3, l3⟩ := zeh v2.2
  rw [if_neg k1, if_pos k2, h2]
  simp only [Option.bind_some, h3]
  exact ⟨_, rfl⟩
 by_cases k3 : wr .u8 (min v1.1 255) = 3
 ·obtain ⟨v2, h2, l2⟩ := ints_tot v1.2 (by omega) 6
  rw [if_neg k1, if_neg k2, if_pos k3, h2]
  simp only [Option.bind_some]
  exact ⟨_, rfl⟩
 rw [if_neg k1, if_neg k2, if_neg k3]
 obtain ⟨b2, hb2⟩ : ∃ b2, (if (wr .u8 (min v1.1 255)) = 4 then some ((wr .u8 (min v1.1 255)) == 4) else if (wr .u8 (min v1.1 255)) = 5 then some ((wr .u8 (min v1.1 255)) == 5) else some ((wr .u8 (min v1.1 255)) == 6)) = some b2 := by
  split
  ·exact ⟨_, rfl⟩
  ·split <;> exact ⟨_, rfl⟩
 rw [hb2]
 simp only [Option.bind_some]
 by_cases hb : b2 = true
 ·rw [if_pos hb]
  obtain ⟨v2, h2, l2⟩ := zeh v1.2
  obtain ⟨v3, h3, l3⟩ := zeh v2.2
  simp only [h2, h3, Option.bind_some]
  by_cases k4 : wr .u8 (min v1.1 255) = 4
  ·obtain ⟨v4, h4, l4⟩ := zeh v3.2
   obtain ⟨v5, h5, l5⟩ := zeh ⟨v4.2.fB, v4.2.fOk⟩
   rw [if_pos k4, h4]
   simp only [Option.bind_some, h5]
   exact ⟨_, rfl⟩
  ·obtain ⟨v5, h5, l5⟩ := zeh ⟨v3.2.fB, v3.2.fOk⟩
   rw [if_neg k4]
   simp only [Option.bind_some, h5]
   exact ⟨_, rfl⟩
 ·rw [if_neg hb]
  exact ⟨_, rfl⟩
theorem read_tot (s : List UInt8) : ∃ r, zcb s = some r := by
 rw [zcb]
 by_cases h : (s.length : Int) > 1024
 ·rw [if_pos h]; exact ⟨_, rfl⟩
 rw [if_neg h]
 obtain ⟨x, hx⟩ := command_tot ⟨zg2 s, true⟩ (by simp [zg2]; omega)
 rw [hx]
 simp only [Option.bind_some]
 by_cases hc : (¬ (x.2.fOk = true)) \/ ((x.2.fB.length : Int) > 0)
 ·rw [if_neg (fun h => h hc)]
  simp only [Option.bind_some]
  rw [if_pos (.inl hc)]
  exact ⟨_, rfl⟩
 ·rw [if_pos hc]
  obtain ⟨e, he, _⟩ := cmd_tot x.1
  rw [he]
  simp only [Option.bind_some]
  split <;> exact ⟨_, rfl⟩
def cmdsS : List (List UInt8) -> Option (List TCommand)
 | [] => some []
 | s :: l => match zcb s with
  | some (c, e) => if e = 0 then (cmdsS l).map (c :: ·) else none
  | none => none
theorem cmds_len : ∀ (l : List (List UInt8)) (cs : List TCommand), cmdsS l = some cs -> cs.length = l.length := by
 intro l
 induction l with
 | nil => intro cs h; simp [cmdsS] at h; simp [<- h]
 | cons s l ih =>
  intro cs h
  obtain ⟨⟨c, e⟩, hr⟩ := read_tot s
  simp only [cmdsS, hr] at h
  split at h
  ·obtain ⟨ds, hd, rfl⟩ := Option.map_eq_some_iff.1 h
   simp [ih ds hd]
  ·cases h
theorem cmds_loop : ∀ (l : List (List UInt8)) (acc : List TCommand), acc.length + l.length < 1000000 -> zc2 l acc = some (match cmdsS l with | some cs => .inr (acc ++ cs) | none => .inl ([], 8)) := by
 intro l
 induction l with
 | nil => intro acc _; simp [zfy, cmdsS]
 | cons s l ih =>
  intro acc h
  simp only [List.length_cons] at h
  obtain ⟨⟨c, e⟩, hr⟩ := read_tot s
  rw [zfz, hr]
  simp only [Option.bind_some, cmdsS, hr]
  by_cases he : e = 0
  ·rw [if_neg (by simpa using he), if_pos (by simp; omega), ih _ (by simp; omega), if_pos he]
   cases cmdsS l <;> simp
  ·rw [if_pos he, if_neg he]
theorem cmds_eq (l : List (List UInt8)) : zds l = some (if (l.length : Int) > 200 then (([], 4) : List TCommand × Int) else match cmdsS l with | some cs => (cs, 0) | none => ([], 8)) := by
 rw [zds]
 by_cases h : (l.length : Int) > 200
 ·rw [if_pos h, if_pos h]
 ·rw [if_neg h, if_neg h, cmds_loop l [] (by simp; omega)]
  cases cmdsS l <;> rfl
def stp (g : Int) (s : TSkeen) (c : TCommand) : TSkeen × List TMessage := match zbr s g c with
 | some r => if r.2.2 = 0 then (r.1, r.2.1) else (s, [])
 | none => (s, [])
theorem stp_ok {g : Int} {s : TSkeen} {c : TCommand} (h : V s) : ∃ r, zbr s g c = some r /\ V (stp g s c).1 /\ s.Clock <= (stp g s c).1.Clock /\ (∃ d : List TStamp, (stp g s c).1.Done = s.Done ++ d /\ d.length = (stp g s c).2.length) /\
  ((¬ r.2.2 = 0 /\ stp g s c = (s, [])) \/ (r.2.2 = 0 /\ stp g s c = (r.1, r.2.1))) := by
 rcases apply_ok s g c h with ⟨e, he, ha, _⟩ | ⟨W, ck, ws, W', _, ha, hV, hck, _⟩
 ·have : stp g s c = (s, []) := by simp only [stp, ha, if_neg he]
  rw [this]
  exact ⟨_, ha, h, Int.le_refl _, ⟨[], by simp, rfl⟩, .inl ⟨he, rfl⟩⟩
 ·have : stp g s c = (⟨ck, W', s.Done ++ ws.map stW⟩, ws.map TWait.Message) := by simp only [stp, ha, if_true]
  rw [this]
  exact ⟨_, ha, hV, hck, ⟨ws.map stW, rfl, by simp⟩, .inr ⟨rfl, rfl⟩⟩
def fin (g : Int) : TSkeen -> List TCommand -> TSkeen
 | s, [] => s
 | s, c :: l => fin g (stp g s c).1 l
def outs (g : Int) : TSkeen -> List TCommand -> List TMessage
 | _, [] => []
 | s, c :: l => (stp g s c).2 ++ outs g (stp g s c).1 l
def tms (g : Int) : TSkeen -> List TCommand -> List Torder_given
 | _, [] => []
 | s, c :: l => (if ((stp g s c).1.Waits.length : Int) > (s.Waits.length : Int) then [⟨(stp g s c).1.Clock, c.Message⟩] else []) ++ tms g (stp g s c).1 l
theorem fin_v (g : Int) : ∀ (l : List TCommand) (s : TSkeen), V s -> V (fin g s l) /\ s.Clock <= (fin g s l).Clock /\ ∃ d : List TStamp, (fin g s l).Done = s.Done ++ d /\ d.length = (outs g s l).length := by
 intro l
 induction l with
 | nil => intro s h; exact ⟨h, Int.le_refl _, [], by simp [fin], rfl⟩
 | cons c l ih =>
  intro s h
  obtain ⟨r, _, h1, h2, ⟨d, h3, h4⟩, _⟩ := stp_ok (g := g) (c := c) h
  obtain ⟨k1, k2, e, k3, k4⟩ := ih _ h1
  exact ⟨k1, Int.le_trans h2 k2, d ++ e, by rw [fin, k3, h3, List.append_assoc], by simp [outs, h4, k4]⟩
theorem tms_app (g : Int) : ∀ (l m : List TCommand) (s : TSkeen), tms g s (l ++ m) = tms g s l ++ tms g (fin g s l) m := by
 intro l
 induction l with
 | nil => intro m s; rfl
 | cons c l ih => intro m s; simp only [List.cons_append, tms, fin, ih, List.append_assoc]
theorem tms_len (g : Int) : ∀ (l : List TCommand) (s : TSkeen), (tms g s l).length <= l.length := by
 intro l
 induction l with
 | nil => intro s; simp [tms]
 | cons c l ih =>
  intro s
  have := ih (stp g s c).1
  rw [tms]
  split <;> simp <;> omega
theorem playT_loop (g : Int) : ∀ (l : List TCommand) (s : TSkeen) (out : List Torder_given), V s -> out.length + l.length < 1000000 -> zat g l out s.Clock s.Waits s.Done = some (out ++ tms g s l, (fin g s l).Clock, (fin g s l).Waits, (fin g s l).Done) := by
 intro l
 induction l with
 | nil => intro s out _ _; simp [zat, tms, fin]
 | cons c l ih =>
  intro s out h ho
  simp only [List.length_cons] at ho
  obtain ⟨r, hr, h1, h2, _, h5⟩ := stp_ok (g := g) (c := c) h
  rw [zat]
  have hr' : zbr ⟨s.Clock, s.Waits, s.Done⟩ g c = some r := hr
  rw [hr']
  simp only [Option.bind_some, fin, tms]
  rcases h5 with ⟨he, hs⟩ | ⟨he, hs⟩
  ·rw [hs] at h1 ⊢
   rw [if_pos he]
   simp only [Option.bind_some, zeo]
   rw [if_neg (by omega), if_neg (by omega)]
   simp only [Option.bind_some]
   have := ih s out h1 (by omega)
   simpa using this
  ·rw [hs] at h1 ⊢
   rw [if_neg (by simpa using he)]
   simp only [Option.bind_some, zeo]
   by_cases hw : (r.1.Waits.length : Int) > (s.Waits.length : Int)
   ·rw [if_pos hw, if_pos hw, if_pos (by simp; omega)]
    simp only [Option.bind_some]
    have := ih r.1 (out ++ [⟨r.1.Clock, c.Message⟩]) h1 (by simp; omega)
    simpa [List.append_assoc] using this
   ·rw [if_neg hw, if_neg hw]
    simp only [Option.bind_some]
    have := ih r.1 out h1 (by omega)
    simpa using this
theorem zn8 : V ⟨0, [], []⟩ := ⟨by decide, by decide, by decide, by decide, ⟨by simp, by simp, by simp⟩, ⟨by simp, by simp [IdsUp]⟩, by simp⟩
def askS (g : Int) (l : List (List UInt8)) : Int := if g < 0 \/ g >= 4 then 2 else if (l.length : Int) > 200 then 4 else if cmdsS l = none then 8 else 0
theorem twin_v {s : TSkeen} (h : V s) : zcg s = some s := twin_sk s (by have := h.lw; omega) (by have := h.ld; omega) (fun w hw => by have := (h.w.1 w hw).1.groups; omega)
theorem local_loop : ∀ (l : List Torder_given) (acc : List TStamp), acc.length + l.length < 1000000 -> zce l acc = some (acc ++ l.map fun x => (⟨x.fTime, x.fM.Id⟩ : TStamp)) := by
 intro l
 induction l with
 | nil => intro acc _; simp [zgi]
 | cons y l ih =>
  intro acc h
  simp only [List.length_cons] at h
  rw [zgj, if_pos (by simp; omega), ih _ (by simp; omega)]
  simp
theorem local_eq (g : Int) (l : List (List UInt8)) : (∃ e, e ≠ 0 /\ askS g l = e /\ zea g l = some ([], e)) \/
  ∃ cs, askS g l = 0 /\ cmdsS l = some cs /\ l.length <= 200 /\ zea g l = some ((tms g zSk cs).map fun x => (⟨x.fTime, x.fM.Id⟩ : TStamp), 0) := by
 rw [zea, zcy, zdo]
 unfold askS
 by_cases hg : g < 0 \/ g >= 4
 ·rw [if_pos hg, if_pos hg]; exact .inl ⟨2, by omega, rfl, rfl⟩
 rw [if_neg hg, if_neg hg, cmds_eq]
 by_cases hl : (l.length : Int) > 200
 ·rw [if_pos hl, if_pos hl]; exact .inl ⟨4, by omega, rfl, rfl⟩
 rw [if_neg hl, if_neg hl]
 cases hc : cmdsS l with
 | none => exact .inl ⟨8, by omega, rfl, rfl⟩
 | some cs =>
  right
  have hcl := cmds_len l cs hc
  refine ⟨cs, by simp, rfl, by omega, ?_⟩
  simp only [Option.bind_some, not_true_eq_false, if_false]
  have h1 := playT_loop g cs zSk [] zn8 (by simp; omega)
  have h1 : zat g cs [] 0 [] [] = _ := h1
  have h2 := twin_v (fin_v g cs zSk zn8).1
  rw [zen]
  simp only [Option.bind_some, h1]
  have h2 : zcg ⟨(fin g zSk cs).Clock, (fin g zSk cs).Waits, (fin g zSk cs).Done⟩ = _ := h2
  rw [h2]
  have h3 := tms_len g cs zSk
  simp only [Option.bind_some, List.nil_append, local_loop (tms g zSk cs) [] (by simp; omega)]
end Go.Proofs
end
section
namespace Go.Proofs
open Go.Tm
set_option linter.unusedSimpArgs false
set_option linter.unusedVariables false
theorem eqS_loop (b : List TStamp) : ∀ (l : List TStamp) (n : Nat), n + l.length = b.length -> zao b l n = some (if l = b.drop n then .inr () else .inl false) := by
 intro l
 induction l with
 | nil => intro n h; simp [zao]; simp at h; omega
 | cons y l ih =>
  intro n h
  simp only [List.length_cons] at h
  have hn : n < b.length := by omega
  have hg : b.getD n default = b[n] := by simp [List.getD, List.getElem?_eq_getElem hn]
  have hd := List.drop_eq_getElem_cons hn
  rw [zao, if_pos hn, hg]
  generalize b[n] = z at hd
  rw [hd]
  have hz : (y.Time = z.Time /\ y.Id = z.Id) ↔ y = z := by
   obtain ⟨y1, y2⟩ := y
   obtain ⟨z1, z2⟩ := z
   simp
  by_cases hy : y = z
  ·rw [if_neg (by simpa using hz.2 hy), ih (n + 1) (by omega)]
   simp only [hy, List.cons.injEq, true_and]
  ·rw [if_pos (fun h => hy (hz.1 h))]
   simp only [hy, List.cons.injEq, false_and, if_false]
theorem eqS_eq (a b : List TStamp) : zbz a b = some (decide (a = b)) := by
 rw [zbz]
 by_cases h : (a.length : Int) = (b.length : Int)
 ·rw [if_neg (by simpa using h), eqS_loop b a 0 (by omega), List.drop_zero]
  by_cases hab : a = b <;> simp [hab]
 ·rw [if_pos h]
  have : a ≠ b := fun hh => h (by rw [hh])
  simp [this]
theorem sameW_eq (a b : TWait) : zdd a b = some (decide (a = b)) := by
 rw [zdd, sm_eq]
 obtain ⟨a1, a2, a3⟩ := a
 obtain ⟨b1, b2, b3⟩ := b
 by_cases h : a1 = b1 <;> by_cases h2 : a2 = b2 <;> by_cases h3 : a3 = b3 <;> simp [h, h2, h3]
theorem eqW_loop (b : List TWait) : ∀ (l : List TWait) (n : Nat), n + l.length = b.length -> za8 b zdd l n = some (if l = b.drop n then .inr () else .inl false) := by
 intro l
 induction l with
 | nil => intro n h; simp [za8]; simp at h; omega
 | cons y l ih =>
  intro n h
  simp only [List.length_cons] at h
  have hn : n < b.length := by omega
  have hg : b.getD n default = b[n] := by simp [List.getD, List.getElem?_eq_getElem hn]
  have hd := List.drop_eq_getElem_cons hn
  rw [za8, if_pos hn, hg, sameW_eq]
  generalize b[n] = z at hd
  rw [hd]
  simp only [Option.bind_some]
  by_cases hy : y = z
  ·rw [if_neg (by simpa using hy), ih (n + 1) (by omega)]
   simp only [hy, List.cons.injEq, true_and]
  ·rw [if_pos (by simpa using hy)]
   simp only [hy, List.cons.injEq, false_and, if_false]
theorem eqW_eq (a b : List TWait) : zb2 a b zdd = some (decide (a = b)) := by
 rw [zb2]
 by_cases h : (a.length : Int) = (b.length : Int)
 ·rw [if_neg (by simpa using h), eqW_loop b a 0 (by omega), List.drop_zero]
  by_cases hab : a = b <;> simp [hab]
 ·rw [if_pos h]
  have : a ≠ b := fun hh => h (by rw [hh])
  simp [this]
theorem sks_eq (a b : TSkeen) : zgh a b = some (decide (a = b)) := by
 rw [zgh, eqS_eq, eqW_eq]
 obtain ⟨a1, a2, a3⟩ := a
 obtain ⟨b1, b2, b3⟩ := b
 by_cases h : a1 = b1 <;> by_cases h2 : a2 = b2 <;> by_cases h3 : a3 = b3 <;> simp [h, h2, h3]
theorem times_eq (g : Int) (l : List (List UInt8)) : (∃ e, e ≠ 0 /\ askS g l = e /\ zcy g l = some ([], e)) \/
  ∃ cs, askS g l = 0 /\ cmdsS l = some cs /\ l.length <= 200 /\ zcy g l = some (tms g zSk cs, 0) := by
 rw [zcy, zdo]
 unfold askS
 by_cases hg : g < 0 \/ g >= 4
 ·rw [if_pos hg, if_pos hg]; exact .inl ⟨2, by omega, rfl, rfl⟩
 rw [if_neg hg, if_neg hg, cmds_eq]
 by_cases hl : (l.length : Int) > 200
 ·rw [if_pos hl, if_pos hl]; exact .inl ⟨4, by omega, rfl, rfl⟩
 rw [if_neg hl, if_neg hl]
 cases hc : cmdsS l with
 | none => exact .inl ⟨8, by omega, rfl, rfl⟩
 | some cs =>
  right
  have hcl := cmds_len l cs hc
  refine ⟨cs, by simp, rfl, by omega, ?_⟩
  simp only [Option.bind_some, not_true_eq_false, if_false]
  have h1 := playT_loop g cs zSk [] zn8 (by simp; omega)
  have h1 : zat g cs [] 0 [] [] = _ := h1
  have h2 := twin_v (fin_v g cs zSk zn8).1
  rw [zen]
  simp only [Option.bind_some, h1]
  have h2 : zcg ⟨(fin g zSk cs).Clock, (fin g zSk cs).Waits, (fin g zSk cs).Done⟩ = _ := h2
  rw [h2]
  simp
def cssS : List (List (List UInt8)) -> Option (List (List TCommand))
 | [] => some []
 | l :: r => if l.length <= 200 then match cmdsS l with
   | some cs => (cssS r).map (cs :: ·)
   | none => none
  else none
def tabS : Nat -> List (List TCommand) -> List (List Torder_given)
 | _, [] => []
 | n, cs :: r => tms (n : Int) zSk cs :: tabS (n + 1) r
theorem zl2 : ∀ (r : List (List TCommand)) (n : Nat), (tabS n r).length = r.length
 | [], _ => rfl
 | _ :: r, n => by simp [tabS, zl2 r]
theorem zl3 : ∀ (r : List (List TCommand)) (n i : Nat) (h : i < r.length), (tabS n r).getD i default = tms ((n + i : Nat) : Int) zSk r[i]
 | cs :: r, n, 0, _ => by simp [tabS]
 | cs :: r, n, i + 1, h => by
  have h' : i < r.length := by simpa using h
  have := zl3 r (n + 1) i h'
  simp only [tabS, List.getD_cons_succ, List.getElem_cons_succ, this]
  congr 2
  omega
theorem zlr : ∀ (r : List (List (List UInt8))) (css : List (List TCommand)), cssS r = some css -> css.length = r.length
 | [], css, h => by simp [cssS] at h; simp [<- h]
 | l :: r, css, h => by
  simp only [cssS] at h
  split at h
  ·split at h
   ·obtain ⟨d, hd, rfl⟩ := Option.map_eq_some_iff.1 h
    simp [zlr r d hd]
   ·cases h
  ·cases h
theorem znf : ∀ (r : List (List (List UInt8))) (css : List (List TCommand)), cssS r = some css -> ∀ (i : Nat) (h : i < r.length) (h' : i < css.length), r[i].length <= 200 /\ cmdsS r[i] = some css[i]
 | [], css, h, i, hi, _ => by simp at hi
 | l :: r, css, h, i, hi, hi' => by
  simp only [cssS] at h
  split at h
  ·rename_i hl
   split at h
   ·rename_i cs hc
    obtain ⟨d, hd, rfl⟩ := Option.map_eq_some_iff.1 h
    cases i with
    | zero => exact ⟨hl, hc⟩
    | succ i => exact znf r d hd i (by simpa using hi) (by simpa using hi')
   ·cases h
  ·cases h
theorem of_loop : ∀ (r : List (List (List UInt8))) (n : Nat) (acc : List (List Torder_given)), n + r.length <= 4 -> acc.length <= n ->
  (∃ e, e ≠ 0 /\ cssS r = none /\ zcq r n acc = some (.inl ([], e))) \/ ∃ css, cssS r = some css /\ zcq r n acc = some (.inr (acc ++ tabS n css))
 | [], n, acc, _, _ => .inr ⟨[], rfl, by simp [zi1, tabS]⟩
 | l :: r, n, acc, hn, ha => by
  simp only [List.length_cons] at hn
  rw [zi2]
  rcases times_eq (n : Int) l with ⟨e, he, hk, ht⟩ | ⟨cs, _, hc, hl, ht⟩
  ·rw [ht]
   refine .inl ⟨e, he, ?_, by simp [he]⟩
   unfold askS at hk
   rw [if_neg (by omega)] at hk
   by_cases h2 : l.length <= 200
   ·rw [if_neg (by omega)] at hk
    by_cases h3 : cmdsS l = none
    ·simp [cssS, h2, h3]
    ·rw [if_neg h3] at hk; omega
   ·simp [cssS, h2]
  ·rw [ht]
   simp only [Option.bind_some, not_true_eq_false, if_false]
   rw [if_pos (by simp; omega)]
   rcases of_loop r (n + 1) (acc ++ [tms (n : Int) zSk cs]) (by omega) (by simp; omega) with h | ⟨css, h1, h2⟩
   ·obtain ⟨e, h1, h2, h3⟩ := h
    exact .inl ⟨e, h1, by simp [cssS, hl, hc, h2], h3⟩
   ·refine .inr ⟨cs :: css, by simp [cssS, hl, hc, h1], ?_⟩
    rw [h2, tabS]; simp
theorem of_eq (r : List (List (List UInt8))) : (∃ e, e ≠ 0 /\ (r.length <= 4 -> cssS r = none) /\ zei r = some ([], e)) \/ ∃ css, r.length <= 4 /\ cssS r = some css /\ zei r = some (tabS 0 css, 0) := by
 rw [zei]
 by_cases h : (r.length : Int) > 4
 ·rw [if_pos h]; exact .inl ⟨4, by omega, by omega, rfl⟩
 ·rw [if_neg h]
  rcases of_loop r 0 [] (by omega) (by simp) with ⟨e, he, hn, h1⟩ | ⟨css, h1, h2⟩
  ·rw [h1]; exact .inl ⟨e, he, fun _ => hn, rfl⟩
  ·rw [h2]; exact .inr ⟨css, by omega, h1, rfl⟩
theorem ixG_loop (m : TMessage) : ∀ (l : List Torder_given) (n : Nat), (∃ (k : Nat) (h : k < l.length), l[k].fM = m /\ za3 (fun x0 => zbg x0 m) l n = some (.inl ((n + k : Nat) : Int))) \/ ((∀ e ∈ l, e.fM ≠ m) /\ za3 (fun x0 => zbg x0 m) l n = some (.inr ())) := by
 intro l
 induction l with
 | nil => intro n; exact .inr ⟨by simp, rfl⟩
 | cons y l ih =>
  intro n
  rw [za3]
  simp only [zbg, sm_eq, Option.bind_some]
  by_cases h : y.fM = m
  ·rw [if_pos (by simpa using h)]; exact .inl ⟨0, by simp, h, rfl⟩
  ·rw [if_neg (by simpa using h)]
   have ih := ih (n + 1)
   simp only [zbg, sm_eq, Option.bind_some] at ih
   rcases ih with ⟨k, hk, h1, h2⟩ | ⟨h1, h2⟩
   ·exact .inl ⟨k + 1, by simp; omega, by simpa using h1, by rw [h2]; congr 3; omega⟩
   ·refine .inr ⟨fun w hw => ?_, h2⟩
    rcases List.mem_cons.1 hw with rfl | hw
    ·exact h
    ·exact h1 w hw
theorem final_loop (T : List (List Torder_given)) (m : TMessage) : ∀ (gs : List Int) (n : Int), (∀ g ∈ gs, 0 <= g) ->
  zb6 T m gs n = some (.inl (0, false)) \/ ∃ n', zb6 T m gs n = some (.inr n') /\ n <= n' /\
   (∀ g ∈ gs, g < (T.length : Int) /\ ∃ e ∈ T.getD g.toNat default, e.fM = m /\ e.fTime <= n') /\ (n' = n \/ ∃ g ∈ gs, ∃ e ∈ T.getD g.toNat default, e.fM = m /\ e.fTime = n') := by
 intro gs
 induction gs with
 | nil => intro n _; exact .inr ⟨n, rfl, Int.le_refl _, by simp, .inl rfl⟩
 | cons g gs ih =>
  intro n h0
  have hg := h0 g (List.mem_cons_self ..)
  rw [zb6]
  by_cases h1 : g >= (T.length : Int)
  ·rw [if_pos h1]; exact .inl rfl
  rw [if_neg h1, if_pos ⟨hg, by omega⟩, zb9]
  rcases ixG_loop m (T.getD g.toNat default) 0 with ⟨k, hk, e1, e2⟩ | ⟨e1, e2⟩
  ·rw [e2]
   simp only [Option.bind_some, Nat.zero_add]
   rw [if_neg (by omega), if_pos ⟨hg, by omega⟩, if_pos ⟨by omega, by omega⟩, Int.toNat_natCast]
   have hge : (T.getD g.toNat default).getD k default = (T.getD g.toNat default)[k] := by rw [List.getD_eq_getElem?_getD (l := T.getD g.toNat default), List.getElem?_eq_getElem hk]; rfl
   rw [hge]
   rcases ih (max n (T.getD g.toNat default)[k].fTime) (fun x hx => h0 x (List.mem_cons_of_mem _ hx)) with h | ⟨n', h2, h3, h4, h5⟩
   ·exact .inl h
   ·refine .inr ⟨n', h2, by omega, fun x hx => ?_, ?_⟩
    ·rcases List.mem_cons.1 hx with rfl | hx
     ·exact ⟨by omega, _, List.getElem_mem hk, e1, by omega⟩
     ·exact h4 x hx
    ·rcases h5 with h5 | ⟨x, hx, h5⟩
     ·by_cases hmx : n <= (T.getD g.toNat default)[k].fTime
      ·exact .inr ⟨g, List.mem_cons_self .., _, List.getElem_mem hk, e1, by omega⟩
      ·exact .inl (by omega)
     ·exact .inr ⟨x, List.mem_cons_of_mem _ hx, h5⟩
  ·rw [e2]
   simp only [Option.bind_some]
   rw [if_pos (by omega)]; exact .inl rfl
def fT (T : List (List Torder_given)) (m : TMessage) : Int × Bool := (zcd T m).getD (0, false)
theorem fT_eq (T : List (List Torder_given)) (m : TMessage) (h : ∀ g ∈ m.Groups, 0 <= g) : zcd T m = some (fT T m) /\ (∀ n, fT T m = (n, false) -> n = 0) /\ (∀ n, fT T m = (n, true) ->
  (∀ g ∈ m.Groups, g < (T.length : Int) /\ ∃ e ∈ T.getD g.toNat default, e.fM = m /\ e.fTime <= n) /\ 0 <= n /\ (n = 0 \/ ∃ g ∈ m.Groups, ∃ e ∈ T.getD g.toNat default, e.fM = m /\ e.fTime = n)) := by
 unfold fT
 rw [zcd]
 rcases final_loop T m m.Groups 0 h with h1 | ⟨n', h1, h2, h3, h4⟩
 ·rw [h1]
  refine ⟨rfl, fun n hn => (congrArg Prod.fst hn).symm, fun n hn => ?_⟩
  have := congrArg Prod.snd hn
  simp at this
 ·rw [h1]
  refine ⟨rfl, fun n hn => by have := congrArg Prod.snd hn; simp at this, fun n hn => ?_⟩
  have : n' = n := congrArg Prod.fst hn
  subst this
  exact ⟨h3, h2, h4⟩
end Go.Proofs
end
section
namespace Go.Proofs
open Go.Tm
set_option linter.unusedSimpArgs false
set_option linter.unusedVariables false
theorem tms_le (g : Int) (cs : List TCommand) (s : TSkeen) (h : cs.length <= 200) : (tms g s cs).length <= 200 := Nat.le_trans (tms_len g cs s) h
theorem concat1 : ∀ (T : List (List Torder_given)) (n : Int), 0 <= n -> n + 1000 * T.length <= 1000000000 -> (∀ x ∈ T, x.length <= 1000) -> ∃ n', zac T n = some n' /\ 0 <= n' /\ n' <= n + 1000 * T.length
 | [], n, h0, _, _ => ⟨n, rfl, h0, by simp⟩
 | x :: T, n, h0, h1, h2 => by
  have hx := h2 x (List.mem_cons_self ..)
  simp only [List.length_cons] at h1 ⊢
  rw [zac, wr_ok _ (by omega), if_neg (by omega)]
  obtain ⟨n', e1, e2, e3⟩ := concat1 T (n + (x.length : Int)) (by omega) (by omega) (fun y hy => h2 y (List.mem_cons_of_mem _ hy))
  exact ⟨n', e1, e2, by omega⟩
theorem concat2 : ∀ (T : List (List Torder_given)) (acc : List Torder_given), acc.length + 1000 * T.length < 1000000 -> (∀ x ∈ T, x.length <= 1000) -> zab T acc = some (acc ++ T.flatten)
 | [], acc, _, _ => by simp [zc9]
 | x :: T, acc, h, h2 => by
  have hx := h2 x (List.mem_cons_self ..)
  simp only [List.length_cons] at h
  rw [zca, if_pos (by omega), concat2 T _ (by simp; omega) (fun y hy => h2 y (List.mem_cons_of_mem _ hy))]
  simp
theorem concat_eq (T : List (List Torder_given)) (h : T.length <= 4) (h2 : ∀ x ∈ T, x.length <= 200) : zb1 T = some T.flatten := by
 obtain ⟨n', e1, e2, e3⟩ := concat1 T 0 (by omega) (by omega) (fun x hx => Nat.le_trans (h2 x hx) (by omega))
 rw [zb1, e1]
 simp only [Option.bind_some]
 rw [if_pos ⟨e2, by omega⟩, concat2 T [] (by simp; omega) (fun x hx => Nat.le_trans (h2 x hx) (by omega))]
 simp
theorem flat_len : ∀ (T : List (List Torder_given)), (∀ x ∈ T, x.length <= 200) -> T.flatten.length <= 200 * T.length
 | [], _ => by simp
 | x :: T, h => by
  have := flat_len T fun y hy => h y (List.mem_cons_of_mem _ hy)
  have := h x (List.mem_cons_self ..)
  rw [List.flatten_cons, List.length_append, List.length_cons]; omega
def OneS (l : List Torder_given) : Prop := ∀ e ∈ l, ∀ e' ∈ l, e.fM.Id = e'.fM.Id -> e.fM = e'.fM
theorem mget_mputM (k i : Int) (v : TMessage) : ∀ m : List (Int × TMessage), mget k (mput i v m) = if k = i then some v else mget k m := by
 intro m
 induction m with
 | nil => simp [mput, mget]
 | cons x m ih =>
  rw [mput]
  by_cases h : i = x.1
  ·rw [if_pos h]; simp only [mget]
   by_cases hk : k = i
   ·simp [hk]
   ·simp [hk, show k ≠ x.1 from fun e => hk (e.trans h.symm)]
  ·rw [if_neg h]; simp only [mget]
   by_cases hx : k = x.1
   ·simp [hx, show ¬ x.1 = i from fun e => h e.symm]
   ·rw [if_neg hx, ih, if_neg hx]
theorem one_loop (L : List Torder_given) (hL : L.length < 1000000) : ∀ (fu k : Nat) (m : List (Int × TMessage)), L.length - k < fu -> k <= L.length -> (∀ e ∈ L.take k, mget e.fM.Id m = some e.fM) -> (∀ i y, mget i m = some y -> ∃ e ∈ L, e.fM = y /\ e.fM.Id = i) ->
  (zb0 L fu m (k : Int) = some (.inl false) /\ ¬ OneS L) \/ (zb0 L fu m (k : Int) = some (.inr ()) /\ OneS L) := by
 intro fu
 induction fu with
 | zero => intro k m h; omega
 | succ fu ih =>
  intro k m h hk hm hm2
  rw [zb0]
  by_cases hlt : k < L.length
  ·have hput : ∀ i y, mget i (mput L[k].fM.Id L[k].fM m) = some y -> ∃ e ∈ L, e.fM = y /\ e.fM.Id = i := by
    intro i y hy
    rw [mget_mputM] at hy
    by_cases hi : i = L[k].fM.Id
    ·rw [if_pos hi] at hy
     cases hy
     exact ⟨L[k], List.getElem_mem hlt, rfl, hi.symm⟩
    ·rw [if_neg hi] at hy; exact hm2 i y hy
   have hg : L.getD (k : Int).toNat default = L[k] := by rw [Int.toNat_natCast]; simp [List.getD, List.getElem?_eq_getElem hlt]
   rw [if_pos (by omega), if_pos (by omega), hg, wr_ok _ (by omega)]
   have hnext : (∀ y, mget L[k].fM.Id m = some y -> y = L[k].fM) -> ∀ e ∈ L.take (k + 1), mget e.fM.Id (mput L[k].fM.Id L[k].fM m) = some e.fM := by
    intro hy e he
    rw [List.take_succ_eq_append_getElem hlt] at he
    rw [mget_mputM]
    rcases List.mem_append.1 he with he | he
    ·by_cases hid : e.fM.Id = L[k].fM.Id
     ·rw [if_pos hid]
      have := hm e he
      rw [hid] at this
      rw [hy _ this]
     ·rw [if_neg hid]; exact hm e he
    ·simp at he; subst he; simp
   cases hq : mget L[k].fM.Id m with
   | none =>
    simp only [Option.isSome_none, Bool.false_eq_true, if_false, Option.bind_some, false_and]
    exact ih (k + 1) _ (by omega) (by omega) (hnext (by rw [hq]; intro y hy; cases hy)) hput
   | some x =>
    simp only [Option.isSome_some, if_true, Option.getD_some, sm_eq, Option.bind_some, true_and]
    by_cases hx : x = L[k].fM
    ·rw [if_neg (by simpa using hx)]
     exact ih (k + 1) _ (by omega) (by omega) (hnext (by rw [hq]; intro y hy; cases hy; exact hx)) hput
    ·rw [if_pos (by simpa using hx)]
     obtain ⟨e, he, h1, h2⟩ := hm2 _ _ hq
     exact .inl ⟨rfl, fun ho => hx (h1.symm.trans (ho e he _ (List.getElem_mem hlt) h2))⟩
  ·rw [if_neg (by omega)]
   refine .inr ⟨rfl, fun e he e' he' hid => ?_⟩
   have ht : L.take k = L := List.take_of_length_le (by omega)
   rw [ht] at hm
   have h1 := hm e he
   have h2 := hm e' he'
   rw [hid] at h1
   rw [h1] at h2
   exact Option.some.inj h2
theorem one_eq (T : List (List Torder_given)) (h : T.length <= 4) (h2 : ∀ x ∈ T, x.length <= 200) : ∃ b, zdz T = some b /\ (b = true ↔ OneS T.flatten) := by
 have hl := flat_len T h2
 rw [zdz, concat_eq T h h2]
 simp only [Option.bind_some]
 rcases one_loop T.flatten (by omega) (T.flatten.length + 1) 0 [] (by omega) (by omega) (by simp) (by intro i y hy; cases hy) with ⟨h1, h3⟩ | ⟨h1, h3⟩
 ·have h1 : zb0 T.flatten (T.flatten.length + 1) [] 0 = _ := h1
  rw [h1]; exact ⟨false, rfl, by simp [h3]⟩
 ·have h1 : zb0 T.flatten (T.flatten.length + 1) [] 0 = _ := h1
  rw [h1]; exact ⟨true, rfl, fun _ => h3, fun _ => rfl⟩
theorem del_none (c0 : Tskeen_clock) {W : List TWait} (D : List TStamp) (hl : W.length <= 200) (hm : ∀ y l, W = y :: l -> (minW y l).Final = false) (fu : Nat) (hf : 0 < fu) (M : List TMessage) : zan c0 fu W D M = some (W, D, M) := by
 obtain ⟨fu, rfl⟩ : ∃ f, fu = f + 1 := ⟨fu - 1, by omega⟩
 rw [zan]
 cases hW : W with
 | nil => simp
 | cons y l =>
  rw [if_pos (by simp only [List.length_cons]; omega), minw_eq y l (by rw [hW] at hl; simp at hl; omega)]
  simp only [Option.bind_some, hm y l hW, Bool.false_eq_true, not_false_eq_true, if_true]
theorem stp_final {g : Int} {s : TSkeen} {c : TCommand} (h : V s) (k2 : c.Kind = 2) (hne : s ≠ (stp g s c).1) : ∃ w ∈ s.Waits, w.Message.Id = c.Id := by
 apply Decidable.byContradiction
 intro hno
 apply hne
 have hj := h.j
 have hlw := h.lw
 have hld := h.ld
 have htw : zcg s = some s := twin_sk s (by omega) (by omega) (fun w hw => by have := (hj.w.1 w hw).1.groups; omega)
 have key : ∀ r, zbr s g c = some r -> r.2.2 = 0 -> r.1 = s := by
  intro r hr h0
  rw [zbr, check_ok h] at hr
  simp only [Option.bind_some, not_true_eq_false, if_false] at hr
  by_cases hg : g < 0 \/ g >= 4
  ·rw [if_pos hg] at hr
   have := Option.some.inj hr
   rw [<- this] at h0; simp at h0
  rw [if_neg hg] at hr
  obtain ⟨e, he, hc⟩ := cmd_tot c
  rw [he] at hr
  simp only [Option.bind_some] at hr
  by_cases he0 : e = 0
  case neg =>
   rw [if_pos he0] at hr
   have := Option.some.inj hr
   rw [<- this] at h0; exact absurd h0 he0
  rw [if_neg (by simpa using he0), htw] at hr
  simp only [Option.bind_some] at hr
  obtain ⟨i1, i2, i3⟩ := (hc he0).2 k2
  rcases final_eq s c.Id c.Time (by omega) hj i1 with ⟨hf, _⟩ | ⟨k, hk, b1, _⟩
  ·have hf : zbj ⟨s⟩ c.Id c.Time = _ := hf
   rw [if_neg (by omega), if_pos k2, hf] at hr
   simp only [Option.bind_some] at hr
   have hd := del_none ⟨s⟩ s.Done hlw h.m (s.Waits.length + 1) (by omega) []
   have hd' : zbt ⟨⟨s.Clock, s.Waits, s.Done⟩⟩ = some ([], ⟨⟨s.Clock, s.Waits, s.Done⟩⟩) := by
    rw [zbt]
    have hd : zan ⟨⟨s.Clock, s.Waits, s.Done⟩⟩ (s.Waits.length + 1) s.Waits s.Done [] = _ := hd
    simp only [hd, Option.bind_some]
   rw [hd'] at hr
   simp only [Option.bind_some] at hr
   rw [if_neg (by omega)] at hr
   exact (congrArg Prod.fst (Option.some.inj hr)).symm
  ·exact absurd ⟨_, List.getElem_mem hk, b1⟩ hno
 obtain ⟨r, hr, _, _, _, h5⟩ := stp_ok (g := g) (c := c) h
 rcases h5 with ⟨_, hs⟩ | ⟨h0, hs⟩
 ·rw [hs]
 ·rw [hs]; exact (key r hr h0).symm
end Go.Proofs
end
section
namespace Go.Proofs
open Go.Tm
set_option linter.unusedSimpArgs false
set_option linter.unusedVariables false
theorem bind_ite {α β : Type} (c : Prop) [Decidable c] (x d : α) (f : α -> Option β) : Option.bind (if c then some x else some d) f = f (if c then x else d) := by
 split <;> rfl
def risG : Int -> List Int -> Bool
 | _, [] => true
 | k, y :: l => decide (k < y /\ y < 4) && risG y l
theorem risG_len : ∀ (l : List Int) (k : Int), -1 <= k -> risG k l = true -> (l.length : Int) <= 3 - k \/ l = []
 | [], _, _, _ => .inr rfl
 | y :: l, k, hk, h => by
  simp only [risG, Bool.and_eq_true, decide_eq_true_eq] at h
  left
  rcases risG_len l y (by omega) h.2 with h1 | h1
  ·simp only [List.length_cons]; omega
  ·subst h1; simp; omega
theorem pre_getD {L pre l : List Int} {y : Int} (hL : L = pre ++ y :: l) {k : Int} (h0 : pre.getLast? = some k) : L.getD (pre.length - 1) default = k := by
 have hne : pre ≠ [] := by rintro rfl; simp at h0
 have hp : 0 < pre.length := List.length_pos_iff.2 hne
 rw [hL, List.getD_eq_getElem?_getD, List.getElem?_append_left (by omega), <- List.getLast?_eq_getElem?, h0]; rfl
theorem cm_loop (m : TMessage) : ∀ (l pre : List Int) (k : Int) (b : Bool), m.Groups = pre ++ l -> (pre = [] /\ k = -1 \/ 0 <= k /\ pre.getLast? = some k) -> zad m l pre.length b = some (b && risG k l) := by
 intro l
 induction l with
 | nil => intro pre k b _ _; simp [zad, risG]
 | cons y l ih =>
  intro pre k b hm hk
  cases b with
  | false => rw [msg_false]; rfl
  | true =>
   rw [zad, if_pos rfl, in_eq]
   simp only [Option.bind_some, Bool.true_and]
   have hc : (decide (0 <= y /\ y <= 3) && (((pre.length : Int) == 0) || decide (y > m.Groups.getD (pre.length - 1) default))) = decide (k < y /\ y < 4) := by
    rw [Bool.eq_iff_iff]
    simp only [Bool.and_eq_true, Bool.or_eq_true, decide_eq_true_eq, beq_iff_eq]
    rcases hk with ⟨rfl, rfl⟩ | ⟨h0, hl⟩
    ·simp; omega
    ·have hne : pre ≠ [] := by rintro rfl; simp at hl
     have hp : 0 < pre.length := List.length_pos_iff.2 hne
     rw [pre_getD hm hl]; omega
   rw [hc]
   by_cases h : k < y /\ y < 4
   ·rw [decide_eq_true h]
    have := ih (pre ++ [y]) y true (by rw [hm]; simp) (.inr ⟨by rcases hk with ⟨_, rfl⟩ | ⟨h0, _⟩ <;> omega, by simp⟩)
    rw [List.length_append, List.length_singleton] at this
    rw [this]
    simp [risG, h]
   ·rw [decide_eq_false h, msg_false]
    simp [risG, h]
def MOk (m : TMessage) : Prop := m.Groups ≠ [] /\ risG (-1) m.Groups = true /\ IdOk m.Id /\ (0 <= m.Topic /\ m.Topic <= 3) /\ m.Key.length <= 16 /\ m.Body.length <= 64
instance (m : TMessage) : Decidable (MOk m) := by unfold MOk IdOk; infer_instance
theorem checkm_eq (m : TMessage) : zam m = some (if MOk m then 0 else 120) := by
 have h := cm_loop m m.Groups [] (-1) ((decide ((m.Groups.length : Int) >= 1)) && (decide ((m.Groups.length : Int) <= 4))) rfl (.inl ⟨rfl, rfl⟩)
 rw [List.length_nil] at h
 rw [zam, h]
 simp only [Option.bind_some, cid_eq, in_eq, bind_ite]
 by_cases hr : risG (-1) m.Groups = true
 ·have hl := risG_len _ _ (by omega) hr
  by_cases hg : m.Groups = []
  ·have : ¬ MOk m := fun h => h.1 hg
   simp [hg, this]
  ·have h1 : 0 < m.Groups.length := List.length_pos_iff.2 hg
   have h4 : (m.Groups.length : Int) <= 4 := by rcases hl with h | h; omega; exact absurd h hg
   have e1 : decide ((m.Groups.length : Int) >= 1) = true := by simp; omega
   have e2 : decide ((m.Groups.length : Int) <= 4) = true := by simpa using h4
   by_cases hi : IdOk m.Id
   ·by_cases ht : 0 <= m.Topic /\ m.Topic <= 3
    ·by_cases hk : m.Key.length <= 16
     ·by_cases hb : m.Body.length <= 64
      ·have : MOk m := ⟨hg, hr, hi, ht, hk, hb⟩
       simp [e1, e2, hr, hi, ht, this]; omega
      ·have : ¬ MOk m := fun h => hb h.2.2.2.2.2
       simp [e1, e2, hr, hi, ht, this]; omega
     ·have : ¬ MOk m := fun h => hk h.2.2.2.2.1
      simp [e1, e2, hr, hi, ht, this]; omega
    ·have : ¬ MOk m := fun h => ht h.2.2.2.1
     simp [e1, e2, hr, hi, ht, this]
   ·have : ¬ MOk m := fun h => hi h.2.2.1
    simp [e1, e2, hr, hi, this]
 ·have : ¬ MOk m := fun h => hr h.2.1
  simp [hr, this]
theorem MsgOk_iff (m : TMessage) : MsgOk m ↔ MOk m := by
 unfold MsgOk
 rw [checkm_eq]
 split <;> simp_all
theorem risG_in : ∀ (l : List Int) (k : Int), -1 <= k -> risG k l = true -> ∀ g ∈ l, 0 <= g /\ g < 4
 | [], _, _, _, g, hg => by cases hg
 | y :: l, k, hk, h, g, hg => by
  simp only [risG, Bool.and_eq_true, decide_eq_true_eq] at h
  rcases List.mem_cons.1 hg with rfl | hg
  ·omega
  ·exact risG_in l y (by omega) h.2 g hg
theorem MsgOk.grp {m : TMessage} (h : MsgOk m) : m.Groups ≠ [] /\ ∀ g ∈ m.Groups, 0 <= g /\ g < 4 := by
 have := (MsgOk_iff m).1 h
 exact ⟨this.1, risG_in _ _ (by omega) this.2.1⟩
def StepOk (T : List (List Torder_given)) (s : TSkeen) (c : TCommand) (s' : TSkeen) : Prop := c.Kind = 2 -> s ≠ s' -> ∃ w ∈ s.Waits, w.Message.Id = c.Id /\ fT T w.Message = (c.Time, true)
def RunOk (T : List (List Torder_given)) (g : Int) : TSkeen -> List TCommand -> Prop
 | _, [] => True
 | s, c :: l => StepOk T s c (stp g s c).1 /\ RunOk T g (stp g s c).1 l
theorem ixW_loop (x : Torder_step) : ∀ (l : List TWait) (n : Nat), (∃ (k : Nat) (h : k < l.length), l[k].Message.Id = x.fC.Id /\ zaq (fun x0 => zco x0 x) l n = some (.inl ((n + k : Nat) : Int))) \/ (∀ w ∈ l, w.Message.Id ≠ x.fC.Id) := by
 intro l
 induction l with
 | nil => intro n; exact .inr (by simp)
 | cons y l ih =>
  intro n
  rw [zaq]
  simp only [zco, Option.bind_some]
  by_cases h : y.Message.Id = x.fC.Id
  ·rw [if_pos (by simpa using h)]; exact .inl ⟨0, by simp, h, rfl⟩
  ·rw [if_neg (by simpa using h)]
   have ih := ih (n + 1)
   simp only [zco, Option.bind_some] at ih
   rcases ih with ⟨k, hk, h1, h2⟩ | h1
   ·exact .inl ⟨k + 1, by simp; omega, by simpa using h1, by rw [h2]; congr 3; omega⟩
   ·refine .inr fun w hw => ?_
    rcases List.mem_cons.1 hw with rfl | hw
    ·exact h
    ·exact h1 w hw
theorem honest1 (T : List (List Torder_given)) {g : Int} {s : TSkeen} {c : TCommand} (h : V s) (out : List TMessage) (b : Bool) : ∃ b', zdm ⟨c, s, (stp g s c).1, out⟩ T b = some (T, b') /\ (b' = true ↔ b = true /\ StepOk T s c (stp g s c).1) := by
 rw [zdm, sks_eq]
 simp only
 by_cases k2 : c.Kind = 2
 ·simp only [k2, not_true_eq_false, not_false_eq_true, if_true, Option.bind_some, false_or, decide_eq_true_eq]
  by_cases hs : s = (stp g s c).1
  ·rw [if_pos hs]
   exact ⟨b, rfl, fun hb => ⟨hb, fun _ hne => absurd hs hne⟩, fun h => h.1⟩
  ·rw [if_neg hs, zck]
   obtain ⟨w, hw, hid⟩ := stp_final h k2 hs
   rcases ixW_loop ⟨c, s, (stp g s c).1, out⟩ s.Waits 0 with ⟨k, hk, e1, e2⟩ | e1
   ·rw [e2]
    simp only [Option.bind_some, Nat.zero_add]
    rw [if_pos ⟨by omega, by omega⟩, Int.toNat_natCast]
    have hg : s.Waits.getD k default = s.Waits[k] := by simp [List.getD, List.getElem?_eq_getElem hk]
    have hm := (h.j.w.1 _ (List.getElem_mem hk)).1
    rw [hg, (fT_eq T s.Waits[k].Message fun x hx => (hm.grp.2 x hx).1).1]
    simp only [Option.bind_some]
    refine ⟨_, rfl, ?_⟩
    simp only [Bool.and_eq_true, beq_iff_eq]
    refine ⟨fun hb => ⟨hb.1.1, fun _ _ => ⟨_, List.getElem_mem hk, e1, Prod.ext hb.2 hb.1.2⟩⟩, fun ⟨hb, hk2⟩ => ?_⟩
    obtain ⟨w1, hw1, hi1, hf1⟩ := hk2 k2 hs
    have : w1 = s.Waits[k] := at_id h.j.w.2 hw1 (List.getElem_mem hk) (hi1.trans e1.symm)
    rw [<- this]
    exact ⟨⟨hb, congrArg Prod.snd hf1⟩, congrArg Prod.fst hf1⟩
   ·exact absurd hid (e1 w hw)
 ·rw [if_neg (by simpa using k2)]
  simp only [Option.bind_some]
  rw [if_pos (.inl k2)]
  exact ⟨b, rfl, fun hb => ⟨hb, fun hk => absurd hk k2⟩, fun h => h.1⟩
theorem playH_loop (T : List (List Torder_given)) (g : Int) : ∀ (cs : List TCommand) (s : TSkeen) (b : Bool), V s -> ∃ b', zb7 g cs T b s.Clock s.Waits s.Done = some (T, b', (fin g s cs).Clock, (fin g s cs).Waits, (fin g s cs).Done) /\ (b' = true ↔ b = true /\ RunOk T g s cs) := by
 intro cs
 induction cs with
 | nil => intro s b _; exact ⟨b, rfl, fun h => ⟨h, trivial⟩, fun h => h.1⟩
 | cons c cs ih =>
  intro s b h
  obtain ⟨r, hr, h1, _, _, h5⟩ := stp_ok (g := g) (c := c) h
  have hr' : zbr ⟨s.Clock, s.Waits, s.Done⟩ g c = some r := hr
  rw [zb7, hr']
  simp only [Option.bind_some, fin]
  have hst : (if ¬ (r.2.2 = 0) then some (s.Clock, s.Waits, s.Done, []) else some (r.1.Clock, r.1.Waits, r.1.Done, r.2.1)) = some ((stp g s c).1.Clock, (stp g s c).1.Waits, (stp g s c).1.Done, (stp g s c).2) := by
   rcases h5 with ⟨he, hs⟩ | ⟨he, hs⟩
   ·rw [hs, if_pos he]
   ·rw [hs, if_neg (by simpa using he)]
  rw [hst]
  simp only [Option.bind_some]
  obtain ⟨b1, e1, e2⟩ := honest1 T (g := g) (c := c) h (stp g s c).2 b
  have e1 : zdm ⟨c, ⟨s.Clock, s.Waits, s.Done⟩, ⟨(stp g s c).1.Clock, (stp g s c).1.Waits, (stp g s c).1.Done⟩, (stp g s c).2⟩ T b = _ := e1
  rw [e1]
  simp only [Option.bind_some]
  obtain ⟨b2, e3, e4⟩ := ih (stp g s c).1 b1 h1
  exact ⟨b2, e3, by rw [e4, e2, and_assoc]; rfl⟩
theorem playH_eq (T : List (List Torder_given)) (g : Int) (hg : 0 <= g /\ g < 4) (l : List (List UInt8)) (cs : List TCommand) (hl : l.length <= 200) (hc : cmdsS l = some cs) (b : Bool) : ∃ s e b', zdg g l T b = some (s, e, T, b') /\ (b' = true ↔ b = true /\ RunOk T g zSk cs) := by
 rw [zdg, if_neg (by omega), cmds_eq, if_neg (by omega), hc]
 simp only [Option.bind_some, not_true_eq_false, if_false]
 obtain ⟨b', h1, h2⟩ := playH_loop T g cs zSk b zn8
 have h1 : zb7 g cs T b 0 [] [] = _ := h1
 have h3 := twin_v (fin_v g cs zSk zn8).1
 have h3 : zcg ⟨(fin g zSk cs).Clock, (fin g zSk cs).Waits, (fin g zSk cs).Done⟩ = _ := h3
 rw [zen]
 simp only [Option.bind_some, h1, h3]
 exact ⟨_, _, b', rfl, h2⟩
theorem honest_loop (T : List (List Torder_given)) : ∀ (r : List (List (List UInt8))) (css : List (List TCommand)) (n : Nat) (b : Bool), cssS r = some css -> n + r.length <= 4 -> ∃ b', zc1 r n T b = some b' /\ (b' = true ↔ b = true /\ ∀ (i : Nat) (h : i < css.length), RunOk T ((n + i : Nat) : Int) zSk css[i]) := by
 intro r
 induction r with
 | nil => intro css n b h _; simp [cssS] at h; subst h; exact ⟨b, rfl, fun hb => ⟨hb, by simp⟩, fun h => h.1⟩
 | cons l r ih =>
  intro css n b h hn
  simp only [List.length_cons] at hn
  simp only [cssS] at h
  split at h
  ·rename_i hl
   split at h
   ·rename_i cs hc
    obtain ⟨d, hd, rfl⟩ := Option.map_eq_some_iff.1 h
    obtain ⟨s, e, b1, e1, e2⟩ := playH_eq T (n : Int) (by omega) l cs hl hc b
    rw [zc1, e1]
    simp only [Option.bind_some]
    obtain ⟨b2, e3, e4⟩ := ih d (n + 1) b1 hd (by omega)
    refine ⟨b2, e3, ?_⟩
    rw [e4, e2]
    constructor
    ·rintro ⟨⟨hb, h0⟩, hk⟩
     refine ⟨hb, fun i hi => ?_⟩
     cases i with
     | zero => exact h0
     | succ i =>
      have := hk i (by simpa using hi)
      rw [show n + (i + 1) = n + 1 + i by omega]
      simpa using this
    ·rintro ⟨hb, hk⟩
     refine ⟨⟨hb, hk 0 (by simp)⟩, fun i hi => ?_⟩
     have := hk (i + 1) (by simpa using hi)
     rw [show n + (i + 1) = n + 1 + i by omega] at this
     simpa using this
   ·cases h
  ·cases h
theorem tab_le {r : List (List (List UInt8))} {css : List (List TCommand)} (h : cssS r = some css) (n : Nat) : ∀ x ∈ tabS n css, x.length <= 200 := by
 intro x hx
 obtain ⟨i, hi, rfl⟩ := List.getElem_of_mem hx
 have hi' : i < css.length := by rw [zl2] at hi; exact hi
 have e := zl3 css n i hi'
 rw [List.getD_eq_getElem?_getD, List.getElem?_eq_getElem hi] at e
 have hlen := zlr r css h
 obtain ⟨h1, h2⟩ := znf r css h i (by omega) hi'
 have e : (tabS n css)[i] = _ := e
 rw [e]
 exact tms_le _ _ _ (by rw [cmds_len _ _ h2]; exact h1)
theorem honest_eq (r : List (List (List UInt8))) : (∃ e, e ≠ 0 /\ (r.length <= 4 -> cssS r = none) /\ zei r = some ([], e) /\ zdr r = some (false, e)) \/ ∃ css b, r.length <= 4 /\ cssS r = some css /\ zei r = some (tabS 0 css, 0) /\ zdr r = some (b, 0) /\
  (b = true ↔ OneS (tabS 0 css).flatten /\ ∀ (i : Nat) (h : i < css.length), RunOk (tabS 0 css) (i : Int) zSk css[i]) := by
 rw [zdr]
 rcases of_eq r with ⟨e, he, hn, h1⟩ | ⟨css, h1, h2, h3⟩
 ·rw [h1]
  simp only [Option.bind_some, he, not_false_eq_true, if_true]
  exact .inl ⟨e, he, hn, rfl, rfl⟩
 ·rw [h3]
  simp only [Option.bind_some, not_true_eq_false, if_false]
  have hlen := zlr r css h2
  obtain ⟨b1, e1, e2⟩ := one_eq (tabS 0 css) (by rw [zl2]; omega) (tab_le h2 0)
  rw [e1]
  simp only [Option.bind_some]
  obtain ⟨b2, e3, e4⟩ := honest_loop (tabS 0 css) r css 0 b1 h2 (by omega)
  rw [e3]
  refine .inr ⟨css, b2, h1, h2, rfl, rfl, ?_⟩
  rw [e4, e2]
  simp only [Nat.zero_add]
end Go.Proofs
end
section
namespace Go.Proofs
open Go.Tm
set_option linter.unusedSimpArgs false
set_option linter.unusedVariables false
structure Rn (s : TSkeen) (ts : List Torder_given) : Prop where
 a : ∀ w ∈ s.Waits, ∃ e ∈ ts, e.fM = w.Message
 b : ∀ e ∈ ts, (∃ w ∈ s.Waits, w.Message.Id = e.fM.Id) \/ ∃ x ∈ s.Done, x.Id = e.fM.Id
 c : (ts.map fun e => e.fM.Id).Nodup
 d : ∀ e ∈ ts, 1 <= e.fTime /\ e.fTime <= 1073741824
theorem last_mem {α : Type} {l : List α} (h : l ≠ []) : ∃ x, l.getLast? = some x /\ x ∈ l := ⟨l.getLast h, List.getLast?_eq_some_getLast h, List.getLast_mem h⟩
theorem step_rn {g : Int} {s : TSkeen} {c : TCommand} {ts : List Torder_given} (hV : V s) (hI : Rn s ts) :
  Rn (stp g s c).1 (ts ++ if ((stp g s c).1.Waits.length : Int) > (s.Waits.length : Int) then [⟨(stp g s c).1.Clock, c.Message⟩] else []) := by
 rcases apply_ok s g c hV with ⟨e, he, ha, _⟩ | ⟨W, ck, ws, W', hst, ha, hV', hck, h1, h2, h3, h4, h5⟩
 ·have hs : stp g s c = (s, []) := by simp only [stp, ha, if_neg he]
  rw [hs, if_neg (by simp), List.append_nil]
  exact hI
 have hs : stp g s c = (⟨ck, W', s.Done ++ ws.map stW⟩, ws.map TWait.Message) := by simp only [stp, ha, if_true]
 rw [hs]
 have hj := hV.j
 -- ids that waited or were delivered stay so
 have hb : ∀ e ∈ ts, (∀ w ∈ s.Waits, ∃ v ∈ W, v.Message.Id = w.Message.Id) -> (∃ w ∈ W', w.Message.Id = e.fM.Id) \/ ∃ x ∈ s.Done ++ ws.map stW, x.Id = e.fM.Id := by
  intro e he hk
  rcases hI.b e he with ⟨w, hw, hid⟩ | ⟨x, hx, hid⟩
  ·obtain ⟨v, hv, hvi⟩ := hk w hw
   rcases h3 v hv with h | h
   ·exact .inl ⟨v, h, hvi.trans hid⟩
   ·exact .inr ⟨stW v, List.mem_append_right _ (List.mem_map_of_mem h), hvi.trans hid⟩
  ·exact .inr ⟨x, List.mem_append_left _ hx, hid⟩
 rcases hst with ⟨rfl, _⟩ | ⟨_, _, hc, hW⟩ | ⟨_, _, k, hk, b1, b2, b3, hWe⟩
 ·rw [if_neg (by show ¬ ((W'.length : Int) > _); omega), List.append_nil]
  exact ⟨fun w hw => hI.a w (h2 w hw), fun e he => hb e he fun w hw => ⟨w, hw, rfl⟩, hI.c, hI.d⟩
 ·have hsub : ∀ w ∈ s.Waits, w ∈ W := by
   intro w hw
   rw [hW]
   have : w ∈ s.Waits.take (plc c.Message.Id s.Waits) ++ s.Waits.drop (plc c.Message.Id s.Waits) := by rw [List.take_append_drop]; exact hw
   rcases List.mem_append.1 this with h | h
   ·exact List.mem_append_left _ h
   ·exact List.mem_append_right _ (List.mem_cons_of_mem _ h)
  have hnew : (⟨c.Message, s.Clock + 1, false⟩ : TWait) ∈ W := by rw [hW]; simp
  have hold : ∀ w ∈ W, w ∈ s.Waits \/ w = ⟨c.Message, s.Clock + 1, false⟩ := by
   intro w hw
   rw [hW] at hw
   rcases List.mem_append.1 hw with hw | hw
   ·exact .inl (List.mem_of_mem_take hw)
   ·rcases List.mem_cons.1 hw with hw | hw
    ·exact .inr hw
    ·exact .inl (List.mem_of_mem_drop hw)
  have hws : ws = [] := by
   apply Decidable.byContradiction
   intro hne
   obtain ⟨u, hu, hum⟩ := last_mem (l := ws) hne
   have huW := h1 u hum
   have hus : u ∈ s.Waits := by
    rcases hold u huW.1 with h | h
    ·exact h
    ·rw [h] at huW; cases huW.2
   have hlast : (s.Done ++ ws.map stW).getLast? = some (stW u) := by
    rw [List.getLast?_append, List.getLast?_map, hu]; rfl
   cases hy : s.Waits with
   | nil => rw [hy] at hus; cases hus
   | cons y l =>
    have hf := hV.m y l hy
    have hmm : minW y l ∈ s.Waits := by
     rw [hy]
     rcases minW_mem l y with h | h
     ·rw [h]; exact List.mem_cons_self ..
     ·exact List.mem_cons_of_mem _ h
    have hmW : minW y l ∈ W' := by
     rcases h3 _ (hsub _ hmm) with h | h
     ·exact h
     ·have := (h1 _ h).2; rw [hf] at this; cases this
    have h6 := (hV'.w.1 _ hmW).2.2.2.2 _ hlast
    obtain ⟨m1, m2⟩ := minW_le l y
    rw [hy] at hus
    rcases List.mem_cons.1 hus with rfl | h
    ·exact m1 h6
    ·exact m2 u h h6
  subst hws
  have hlen : W'.length = W.length := by simpa using h4
  have hWl : W.length = s.Waits.length + 1 := by rw [hW]; simp; omega
  have hall : ∀ w ∈ W, w ∈ W' := fun w hw => (h3 w hw).resolve_right (by simp)
  have hid : ∀ w ∈ s.Waits, w.Message.Id ≠ c.Message.Id := by
   intro w hw he
   have := at_id hV'.w.2 (hall _ (hsub w hw)) (hall _ hnew) he
   have ht := (hj.w.1 w hw).2.2.1
   rw [this] at ht
   have ht : s.Clock + 1 <= s.Clock := ht
   omega
  have hdn : ∀ x ∈ s.Done, x.Id ≠ c.Message.Id := fun x hx => (hV'.w.1 _ (hall _ hnew)).2.2.2.1 x (List.mem_append_left _ hx)
  have hgt : ((W'.length : Nat) : Int) > (s.Waits.length : Int) := by omega
  rw [if_pos hgt]
  refine ⟨fun w hw => ?_, fun e he => ?_, ?_, fun e he => ?_⟩
  ·rcases hold w (h2 w hw) with h | h
   ·obtain ⟨e, he, hm⟩ := hI.a w h
    exact ⟨e, List.mem_append_left _ he, hm⟩
   ·exact ⟨⟨ck, c.Message⟩, by simp, by rw [h]⟩
  ·rcases List.mem_append.1 he with he | he
   ·exact hb e he fun w hw => ⟨w, hsub w hw, rfl⟩
   ·simp only [List.mem_singleton] at he
    subst he
    exact .inl ⟨_, hall _ hnew, rfl⟩
  ·rw [List.map_append, List.map_cons, List.map_nil]
   refine List.nodup_append.2 ⟨hI.c, by simp, fun x hx y hy hxy => ?_⟩
   have hy : y = c.Message.Id := by simpa using hy
   obtain ⟨e, he, rfl⟩ := List.mem_map.1 hx
   have hxy : e.fM.Id = c.Message.Id := hxy.trans hy
   rcases hI.b e he with ⟨w, hw, h⟩ | ⟨x, hx, h⟩
   ·exact hid w hw (h.trans hxy)
   ·exact hdn x hx (h.trans hxy)
  ·rcases List.mem_append.1 he with he | he
   ·exact hI.d e he
   ·simp only [List.mem_singleton] at he
    subst he
    have := hV.c0
    exact ⟨by show 1 <= ck; omega, hV'.c1⟩
 ·have hWl : W.length = s.Waits.length := by rw [hWe]; simp
  rw [if_neg (by show ¬ ((W'.length : Int) > _); omega), List.append_nil]
  refine ⟨fun w hw => ?_, fun e he => hb e he fun w hw => ?_, hI.c, hI.d⟩
  ·have := h2 w hw
   rw [hWe] at this
   rcases List.mem_or_eq_of_mem_set this with h | h
   ·exact hI.a w h
   ·obtain ⟨e, he, hm⟩ := hI.a _ (List.getElem_mem hk)
    exact ⟨e, he, by rw [hm, h]⟩
  ·obtain ⟨i, hi, rfl⟩ := List.getElem_of_mem hw
   by_cases hik : i = k
   ·subst hik
    exact ⟨⟨s.Waits[i].Message, c.Time, true⟩, by rw [hWe]; exact List.mem_set hi _, rfl⟩
   ·refine ⟨s.Waits[i], ?_, rfl⟩
    rw [hWe]
    have : (s.Waits.set k ⟨s.Waits[k].Message, c.Time, true⟩)[i]'(by simpa using hi) = s.Waits[i] := by rw [List.getElem_set, if_neg (fun h => hik h.symm)]
    rw [<- this]
    exact List.getElem_mem _
theorem run_rn {g : Int} : ∀ (cs : List TCommand) (s : TSkeen) (ts : List Torder_given), V s -> Rn s ts -> Rn (fin g s cs) (ts ++ tms g s cs)
 | [], s, ts, _, h => by simpa [fin, tms] using h
 | c :: cs, s, ts, hV, h => by
  obtain ⟨r, _, hV', _⟩ := stp_ok (g := g) (c := c) hV
  have := run_rn (g := g) cs _ _ hV' (step_rn (g := g) (c := c) hV h)
  rw [fin, tms, <- List.append_assoc]
  exact this
theorem run_rn0 (g : Int) (cs : List TCommand) : Rn (fin g zSk cs) (tms g zSk cs) := by
 have := run_rn (g := g) cs zSk [] zn8 ⟨by simp [zSk], by simp, by simp, by simp⟩
 simpa using this
theorem Rn.one {s ts} (h : Rn s ts) {e e' : Torder_given} (he : e ∈ ts) (he' : e' ∈ ts) (hid : e.fM.Id = e'.fM.Id) : e = e' := by
 have hc := h.c
 rw [List.Nodup, List.pairwise_map] at hc
 obtain ⟨i, hi, rfl⟩ := List.getElem_of_mem he
 obtain ⟨j, hj, rfl⟩ := List.getElem_of_mem he'
 have := List.pairwise_iff_getElem.1 hc
 rcases Nat.lt_trichotomy i j with h | h | h
 ·exact absurd hid (this i j hi hj h)
 ·subst h; rfl
 ·exact absurd hid.symm (this j i hj hi h)
end Go.Proofs
end
section
namespace Go.Proofs
open Go.Tm
set_option linter.unusedSimpArgs false
set_option linter.unusedVariables false
theorem wr_i {n : Int} (h1 : -9223372036854775808 <= n) (h2 : n <= 9223372036854775807) : wr .i64 n = n := wr_eq _ _ (by show (-9223372036854775808 : Int) <= _; omega) (by show _ <= (9223372036854775807 : Int); omega)
theorem i64w {n : Int} (h1 : 0 <= n) (h2 : n <= 9223372036854775807) : IntKind.i64.wrap n = n := by
 simp [IntKind.wrap, IntKind.bits, IntKind.signed]; omega
theorem bv64 (a : Nat) (h : a < 18446744073709551616) : (BitVec.ofInt 64 (a : Int)).toNat = a := by
 rw [BitVec.ofInt_natCast, BitVec.toNat_ofNat]; exact Nat.mod_eq_of_lt (by omega)
theorem and64 (a b : Nat) (ha : a < 9223372036854775808) (hb : b < 9223372036854775808) : bitw .and .i64 (a : Int) (b : Int) = ((a &&& b : Nat) : Int) := by
 have hx : a &&& b < 2 ^ 63 := Nat.and_lt_two_pow _ (by omega)
 unfold bitw
 show IntKind.i64.wrap ((BitVec.ofInt 64 (a : Int) &&& BitVec.ofInt 64 (b : Int)).toNat : Int) = _
 rw [BitVec.toNat_and, bv64 a (by omega), bv64 b (by omega)]
 exact i64w (by omega) (by omega)
theorem or64 (a b : Nat) (ha : a < 9223372036854775808) (hb : b < 9223372036854775808) : bitw .or .i64 (a : Int) (b : Int) = ((a ||| b : Nat) : Int) := by
 have hx : a ||| b < 2 ^ 63 := Nat.or_lt_two_pow (by omega) (by omega)
 unfold bitw
 show IntKind.i64.wrap ((BitVec.ofInt 64 (a : Int) ||| BitVec.ofInt 64 (b : Int)).toNat : Int) = _
 rw [BitVec.toNat_or, bv64 a (by omega), bv64 b (by omega)]
 exact i64w (by omega) (by omega)
theorem bv8 (a : Nat) (h : a < 256) : (BitVec.ofInt 8 (a : Int)).toNat = a := by
 rw [BitVec.ofInt_natCast, BitVec.toNat_ofNat]; exact Nat.mod_eq_of_lt (by omega)
theorem and8 (a : Nat) (ha : a < 256) : bitw .and .u8 (a : Int) 127 = ((a % 128 : Nat) : Int) := by
 have e := Nat.and_two_pow_sub_one_eq_mod a 7
 simp only [Nat.reducePow, Nat.reduceSub] at e
 unfold bitw
 show IntKind.u8.wrap ((BitVec.ofInt 8 (a : Int) &&& BitVec.ofInt 8 ((127 : Nat) : Int)).toNat : Int) = _
 rw [BitVec.toNat_and, bv8 a ha, bv8 127 (by decide), e]
 simp [IntKind.wrap, IntKind.bits, IntKind.signed]; omega
theorem and127 (a : Nat) (ha : a < 9223372036854775808) : bitw .and .i64 (a : Int) 127 = ((a % 128 : Nat) : Int) := by
 have e := Nat.and_two_pow_sub_one_eq_mod a 7
 simp only [Nat.reducePow, Nat.reduceSub] at e
 have := and64 a 127 ha (by decide)
 rw [e] at this
 exact this
theorem or128 (a : Nat) (ha : a < 128) : bitw .or .i64 (a : Int) 128 = ((a + 128 : Nat) : Int) := by
 have e := Nat.two_pow_add_eq_or_of_lt (i := 7) (b := a) (by omega) 1
 simp only [Nat.reducePow, Nat.mul_one] at e
 have := or64 a 128 (by omega) (by decide)
 rw [Nat.or_comm, <- e, Nat.add_comm] at this
 exact this
theorem wr8 {n : Nat} (h : n < 256) : wr .u8 (n : Int) = (n : Int) := wr_eq _ _ (by show (0 : Int) <= _; omega) (by show _ <= (255 : Int); omega)
theorem sh7 (n : Nat) : shw false .i64 (n : Int) 7 = ((n / 128 : Nat) : Int) := by
 unfold shw
 show Int.fdiv (n : Int) 128 = _
 rw [Int.fdiv_eq_ediv_of_nonneg _ (by omega)]
 omega
def enc (n : Nat) : List Int := if n < 128 then [(n : Int)] else ((n % 128 + 128 : Nat) : Int) :: enc (n / 128)
termination_by n
decreasing_by omega
theorem enc_lt {n : Nat} (h : n < 128) : enc n = [(n : Int)] := by rw [enc, if_pos h]
theorem enc_ge {n : Nat} (h : ¬ n < 128) : enc n = ((n % 128 + 128 : Nat) : Int) :: enc (n / 128) := by rw [enc, if_neg h]
theorem zmi : ∀ (k n : Nat), n < 128 ^ (k + 1) -> (enc n).length <= k + 1
 | 0, n, h => by rw [enc_lt (by simpa using h)]; simp
 | k + 1, n, h => by
  by_cases h1 : n < 128
  ·rw [enc_lt h1]; simp
  ·rw [enc_ge h1, List.length_cons]
   have := zmi k (n / 128) (by rw [Nat.pow_succ] at h; omega)
   omega
def Bytes (l : List Int) : Prop := ∀ x ∈ l, 0 <= x /\ x < 256
theorem Bytes.app {a b : List Int} (h : Bytes a) (k : Bytes b) : Bytes (a ++ b) := fun x hx => (List.mem_append.1 hx).elim (h x) (k x)
theorem enc_bytes (n : Nat) : Bytes (enc n) := by
 induction n using Nat.strongRecOn with
 | _ n ih =>
  by_cases h : n < 128
  ·rw [enc_lt h]
   intro x hx
   rw [List.mem_singleton] at hx
   omega
  ·rw [enc_ge h]
   intro x hx
   rcases List.mem_cons.1 hx with rfl | hx
   ·omega
   ·exact ih (n / 128) (by omega) x hx
theorem put_loop : ∀ (fu : Nat) (l : List Int) (n : Nat), n < 128 ^ fu -> n < 9223372036854775808 -> l.length + fu < 100000 -> ∃ (I : List Int) (m : Nat), zd0 (fu + 1) l (n : Int) = some (l ++ I, (m : Int)) /\ m < 128 /\ enc n = I ++ [(m : Int)]
 | 0, l, n, h, _, _ => by
  have : n = 0 := by simpa using h
  subst this
  exact ⟨[], 0, by rw [zd0, if_neg (by decide), List.append_nil], by decide, enc_lt (by decide)⟩
 | fu + 1, l, n, h, h2, hl => by
  rw [zd0]
  by_cases h1 : n < 128
  ·rw [if_neg (by omega)]
   exact ⟨[], n, by rw [List.append_nil], h1, enc_lt h1⟩
  ·rw [if_pos (by omega), and127 n h2, or128 _ (by omega), wr8 (by omega), sh7, if_pos (by simp; omega)]
   obtain ⟨I, m, e1, e2, e3⟩ := put_loop fu (l ++ [((n % 128 + 128 : Nat) : Int)]) (n / 128) (by rw [Nat.pow_succ] at h; omega) (by omega) (by simp; omega)
   exact ⟨((n % 128 + 128 : Nat) : Int) :: I, m, by rw [e1, List.append_assoc]; rfl, e2, by rw [enc_ge h1, e3]; rfl⟩
theorem put_enc (n : Nat) (h : n < 9223372036854775808) : zhq (n : Int) = some (enc n) := by
 obtain ⟨I, m, e1, e2, e3⟩ := put_loop 10 [] n (by omega) h (by simp)
 rw [zhq, e1]
 simp only [Option.bind_some]
 have hi : I.length <= 10 := by
  have := zmi 9 n (by omega)
  rw [e3] at this
  simp at this
  omega
 rw [if_pos (by simp; omega), wr8 (by omega), e3]; rfl
theorem numin_eq (n : Int) : zha n = some (decide (0 <= n /\ n <= 1099511627776)) := by
 rw [zha]
 congr 1
 rw [Bool.eq_iff_iff]
 simp
theorem Put_enc (n : Nat) (h : n <= 1099511627776) : zhr (n : Int) = some (enc n, 0) := by
 rw [zhr, numin_eq]
 simp only [Option.bind_some]
 rw [decide_eq_true (by omega), if_neg (by simp), put_enc n (by omega)]; rfl
def pw : Nat -> Nat
 | 0 => 1
 | 1 => 128
 | 2 => 16384
 | 3 => 2097152
 | 4 => 268435456
 | 5 => 34359738368
 | _ => 4398046511104
theorem pw_eq {i : Nat} (hi : i <= 5) : 2 ^ (7 * i) = pw i := by
 rcases (by omega : i = 0 \/ i = 1 \/ i = 2 \/ i = 3 \/ i = 4 \/ i = 5) with rfl | rfl | rfl | rfl | rfl | rfl <;> rfl
theorem pw_le {i : Nat} (hi : i <= 5) : pw i <= 34359738368 := by
 rcases (by omega : i = 0 \/ i = 1 \/ i = 2 \/ i = 3 \/ i = 4 \/ i = 5) with rfl | rfl | rfl | rfl | rfl | rfl <;> decide
theorem shl (x i : Nat) (hx : x < 128) (hi : i <= 5) : shw true .i64 (x : Int) (wr .i64 (7 * (i : Int))) = ((x * pw i : Nat) : Int) := by
 rw [wr_i (by omega) (by omega)]
 have hm : min (7 * (i : Int)).toNat 64 = 7 * i := by omega
 have h1 : x * pw i <= 127 * 34359738368 := Nat.mul_le_mul (by omega) (pw_le hi)
 unfold shw
 show IntKind.i64.wrap ((x : Int) * ((2 : Nat) : Int) ^ (min (7 * (i : Int)).toNat 64)) = _
 rw [hm, <- Int.natCast_pow, pw_eq hi, <- Int.natCast_mul]
 exact i64w (by omega) (by omega)
theorem orp (a x i : Nat) (ha : a < pw i) (hx : x < 128) (hi : i <= 5) : bitw .or .i64 (a : Int) ((x * pw i : Nat) : Int) = ((a + x * pw i : Nat) : Int) := by
 have key : ∀ k : Nat, pw i = 2 ^ k -> a ||| (x * pw i) = a + x * pw i := by
  intro k hk
  rw [hk] at ha ⊢
  have e := Nat.two_pow_add_eq_or_of_lt (i := k) (b := a) ha x
  rw [Nat.or_comm, Nat.mul_comm x, <- e, Nat.add_comm]
 have hb := pw_le hi
 have hm : x * pw i <= 127 * 34359738368 := Nat.mul_le_mul (by omega) hb
 rw [or64 a _ (by omega) (by omega), key (7 * i) (pw_eq hi).symm]
theorem get_enc (R : List Int) : ∀ (n i acc : Nat), i <= 5 -> acc < pw i -> n < pw (6 - i) -> (n > 0 \/ i = 0) -> acc + n * pw i <= 1099511627776 ->
  zbu (enc n ++ R) i (acc : Int) = some (.inl (((acc + n * pw i : Nat) : Int), ((i + (enc n).length : Nat) : Int), 0)) := by
 intro n
 induction n using Nat.strongRecOn with
 | _ n ih =>
  intro i acc hi ha hn h0 hb
  have e7 : (0 : Int) <= wr .i64 (7 * (i : Int)) := by rw [wr_i (by omega) (by omega)]; omega
  by_cases h : n < 128
  ·rw [enc_lt h, List.singleton_append, zbu, if_neg (by omega), if_pos e7, if_neg (by omega), and8 n (by omega), Nat.mod_eq_of_lt h, wr_i (by omega) (by omega), shl n i h hi, orp acc n i ha h hi]
   rw [if_pos (by omega), numin_eq]
   simp only [Option.bind_some]
   rw [decide_eq_true (by omega), if_neg (by simp; omega), wr_i (by omega) (by omega)]
   simp
  ·have hq : n / 128 < n := by omega
   have hs : i <= 4 /\ pw (i + 1) = 128 * pw i /\ n / 128 < pw (6 - (i + 1)) := by
    rcases (by omega : i = 0 \/ i = 1 \/ i = 2 \/ i = 3 \/ i = 4 \/ i = 5) with rfl | rfl | rfl | rfl | rfl | rfl
    ·exact ⟨by decide, rfl, by have k : n < 4398046511104 := hn; show n / 128 < 34359738368; omega⟩
    ·exact ⟨by decide, rfl, by have k : n < 34359738368 := hn; show n / 128 < 268435456; omega⟩
    ·exact ⟨by decide, rfl, by have k : n < 268435456 := hn; show n / 128 < 2097152; omega⟩
    ·exact ⟨by decide, rfl, by have k : n < 2097152 := hn; show n / 128 < 16384; omega⟩
    ·exact ⟨by decide, rfl, by have k : n < 16384 := hn; show n / 128 < 128; omega⟩
    ·exact absurd (show n < 128 from hn) h
   obtain ⟨hi4, hp, hn'⟩ := hs
   have hm : n % 128 < 128 := Nat.mod_lt _ (by decide)
   rw [enc_ge h, List.cons_append, zbu, if_neg (by omega), if_pos e7, if_pos (by omega), and8 _ (by omega), Nat.add_mod_right, Nat.mod_mod, wr_i (by omega) (by omega), shl _ i hm hi, orp acc _ i ha hm hi]
   have hsum : acc + n % 128 * pw i + n / 128 * pw (i + 1) = acc + n * pw i := by
    rw [hp, Nat.add_assoc]
    congr 1
    rw [<- Nat.mul_assoc, <- Nat.add_mul]
    congr 1
    omega
   have hacc : acc + n % 128 * pw i < pw (i + 1) := by
    rw [hp]
    have : n % 128 * pw i <= 127 * pw i := Nat.mul_le_mul (by omega) (Nat.le_refl _)
    omega
   rw [ih (n / 128) hq (i + 1) _ (by omega) hacc hn' (.inl (by omega)) (by omega), hsum]
   simp only [List.length_cons]
   congr 3
   congr 1
   omega
theorem Get_enc (R : List Int) (n : Nat) (h : n <= 1099511627776) : zf2 (enc n ++ R) = some ((n : Int), ((enc n).length : Int), 0) := by
 rw [zf2]
 have := get_enc R n 0 0 (by omega) (by decide) (by show n < 4398046511104; omega) (.inr rfl) (by simp [pw]; omega)
 have e : ((0 : Nat) : Int) = 0 := rfl
 rw [e] at this
 rw [this]
 simp [pw]
theorem ofB_toB : ∀ (l : List Int), Bytes l -> zg2 (zgy l) = l
 | [], _ => rfl
 | x :: l, h => by
  have hx := h x (List.mem_cons_self ..)
  show _ :: zg2 (zgy l) = _
  rw [ofB_toB l fun y hy => h y (List.mem_cons_of_mem _ hy)]
  congr 1
  have : (UInt8.ofNat x.toNat).toNat = x.toNat := by
   rw [UInt8.toNat_ofNat']
   omega
  simp only [this]
  omega
def finC (id t : Int) : TCommand := ⟨2, ⟨0, [], 0, [], []⟩, id, t, [], 0, 0, 0⟩
def finB (id t : Nat) : List Int := 2 :: (enc id ++ enc t)
theorem finB_bytes (id t : Nat) : Bytes (finB id t) := by
 intro x hx
 rcases List.mem_cons.1 hx with rfl | hx
 ·omega
 ·exact ((enc_bytes _).app (enc_bytes _)) x hx
theorem finB_len {id t : Nat} (h : id <= 6291455) (h2 : t <= 1073741824) : (finB id t).length <= 11 := by
 have l1 := zmi 4 id (by omega)
 have l2 := zmi 4 t (by omega)
 unfold finB
 simp only [List.length_cons, List.length_append]; omega
theorem final_write (id t : Nat) (h : id <= 6291455) (h1 : 1 <= t) (h2 : t <= 1073741824) : zcu (id : Int) (t : Int) = some (zgy (finB id t)) := by
 have l1 := zmi 4 id (by omega)
 have l2 := zmi 4 t (by omega)
 rw [zcu, zft, cmd_final _ _ ⟨by omega, by omega⟩, if_pos ⟨by omega, by omega⟩]
 simp only [Option.bind_some, not_true_eq_false, if_false]
 rw [zgb, if_neg (show ¬ ((2 : Int) = 1) by omega), if_pos rfl, zcr]
 have w1 : wr .i64 ((0 : Int) + 1) = 1 := wr_i (by omega) (by omega)
 have w2 : wr .i64 ((1 : Int) + 1) = 2 := wr_i (by omega) (by omega)
 have p1 := Put_enc id (by omega)
 have p2 := Put_enc t (by omega)
 have key : zb3 [(id : Int), (t : Int)] 3 [2] 0 = some (finB id t) := by
  rw [zb3, if_pos (by simp), if_pos (by simp)]
  show Option.bind (zhr (id : Int)) _ = _
  rw [p1]
  simp only [Option.bind_some]
  rw [if_pos (by simp only [List.length_cons, List.length_nil]; omega), w1, zb3, if_pos (by simp), if_pos (by simp)]
  show Option.bind (zhr (t : Int)) _ = _
  rw [p2]
  simp only [Option.bind_some]
  rw [if_pos (by simp only [List.length_cons, List.length_append, List.length_nil]; omega), w2, zb3, if_neg (by simp)]
  rfl
 show Option.bind (Option.bind (Option.bind (Option.bind (zb3 [(id : Int), (t : Int)] 3 [2] 0) _) _) _) _ = _
 rw [key]
 rfl
theorem zmd (R : List Int) (n : Nat) (b : Bool) (h : n <= 1099511627776) : zae ⟨enc n ++ R, b⟩ = some ((n : Int), ⟨R, b⟩) := by
 rw [zae, Get_enc R n h]
 simp only [Option.bind_some]
 rw [zbh]
 have e : min ((enc n).length : Int) (((enc n ++ R).length : Nat) : Int) = ((enc n).length : Int) := by
  rw [List.length_append]; omega
 simp only [e]
 rw [if_pos ⟨by omega, by simp only [List.length_append]; omega⟩, Int.toNat_natCast, List.drop_left]
 simp
theorem final_read (id t : Nat) (h : id <= 6291455) (h1 : 1 <= t) (h2 : t <= 1073741824) : zcb (zgy (finB id t)) = some (finC id t, 0) := by
 have hl := finB_len h h2
 have hL : (zgy (finB id t)).length = (finB id t).length := by simp [zgy]
 have e2 : enc 2 ++ (enc id ++ enc t) = finB id t := by rw [enc_lt (by omega)]; rfl
 have w2 : wr .u8 (min (((2 : Nat) : Int)) 255) = 2 := by
  have : min (((2 : Nat) : Int)) 255 = ((2 : Nat) : Int) := by omega
  rw [this]; exact wr8 (by omega)
 have hc : zbf ⟨finB id t, true⟩ = some (finC id t, ⟨[], true⟩) := by
  rw [zbf, <- e2, zmd _ 2 true (by omega)]
  simp only [Option.bind_some, w2]
  rw [if_neg (by omega), if_pos trivial, zmd _ id true (by omega)]
  simp only [Option.bind_some]
  have := zmd [] t true (by omega)
  rw [List.append_nil] at this
  rw [this]
  rfl
 rw [zcb, if_neg (by rw [hL]; omega), ofB_toB _ (finB_bytes id t), hc]
 simp only [Option.bind_some]
 have hk := cmd_final (id : Int) (t : Int) ⟨by omega, by omega⟩
 rw [if_pos ⟨by omega, by omega⟩] at hk
 have hk : zbw (finC id t) = some 0 := hk
 simp [hk]
end Go.Proofs
end
section
namespace Go.Proofs
open Go.Tm
set_option linter.unusedSimpArgs false
set_option linter.unusedVariables false
theorem greatA2 (L : List (List (List UInt8))) (i : Nat) (hi : i < L.length) : ∀ (fu k : Nat) (n : Int), 1000 - k < fu -> k <= 1000 -> ∃ r, zav L (i : Int) fu n (k : Int) = some r := by
 intro fu
 induction fu with
 | zero => intro k n h; omega
 | succ fu ih =>
  intro k n h hk
  rw [zav, if_pos (by omega)]
  by_cases hc : (k : Int) < ((L.getD (i : Int).toNat default).length : Int) /\ (k : Int) < 1000
  ·rw [if_pos hc, if_pos (by omega), if_pos (by omega), wr_ok ((k : Int) + 1) (by omega)]
   exact ih (k + 1) _ (by omega) (by omega)
  ·rw [if_neg hc]; exact ⟨n, rfl⟩
theorem greatA1 (L : List (List (List UInt8))) : ∀ (fu i : Nat) (n : Int), 10 - i < fu -> i <= 10 -> ∃ r, zaw L fu n (i : Int) = some r := by
 intro fu
 induction fu with
 | zero => intro i n h; omega
 | succ fu ih =>
  intro i n h hi
  rw [zaw]
  by_cases hc : (i : Int) < (L.length : Int) /\ (i : Int) < 10
  ·rw [if_pos hc, wr_ok ((i : Int) + 1) (by omega)]
   obtain ⟨r, hr⟩ := greatA2 L i (by omega) 1002 0 n (by omega) (by omega)
   have hr : zav L (i : Int) 1002 n 0 = some r := hr
   rw [hr]
   simp only [Option.bind_some]
   exact ih (i + 1) _ (by omega) (by omega)
  ·rw [if_neg hc]; exact ⟨n, rfl⟩
theorem greatA (L : List (List (List UInt8))) : ∃ b, zct L = some b := by
 obtain ⟨r, hr⟩ := greatA1 L 12 0 0 (by omega) (by omega)
 have hr : zaw L 12 0 0 = some r := hr
 rw [zct, hr]
 exact ⟨_, rfl⟩
theorem cmds_app : ∀ (l : List (List UInt8)) (cs : List TCommand) (x : List UInt8) (c : TCommand), cmdsS l = some cs -> zcb x = some (c, 0) -> cmdsS (l ++ [x]) = some (cs ++ [c])
 | [], cs, x, c, h, hx => by
  simp only [cmdsS, Option.some.injEq] at h
  subst h
  simp [cmdsS, hx]
 | y :: l, cs, x, c, h, hx => by
  rw [List.cons_append]
  simp only [cmdsS] at h ⊢
  split at h
  ·rename_i z hz
   split at h
   ·obtain ⟨d, hd, rfl⟩ := Option.map_eq_some_iff.1 h
    have := cmds_app l d x c hd hx
    simp_all
   ·cases h
  ·cases h
theorem css_set : ∀ (r : List (List (List UInt8))) (css : List (List TCommand)) (i : Nat) (l : List (List UInt8)) (cs : List TCommand), cssS r = some css -> l.length <= 200 -> cmdsS l = some cs -> cssS (r.set i l) = some (css.set i cs)
 | [], css, i, l, cs, h, _, _ => by simp [cssS] at h; subst h; simp [cssS]
 | y :: r, css, 0, l, cs, h, hl, hc => by
  simp only [cssS] at h
  split at h
  ·split at h
   ·obtain ⟨d, hd, rfl⟩ := Option.map_eq_some_iff.1 h
    simp [cssS, hl, hc, hd]
   ·cases h
  ·cases h
 | y :: r, css, i + 1, l, cs, h, hl, hc => by
  simp only [cssS] at h
  split at h
  ·rename_i hy
   split at h
   ·rename_i dd hdd
    obtain ⟨d, hd, rfl⟩ := Option.map_eq_some_iff.1 h
    have := css_set r d i l cs hd hl hc
    simp [cssS, hy, hdd, this]
   ·cases h
  ·cases h
theorem tab_set : ∀ (css : List (List TCommand)) (n i : Nat) (cs : List TCommand) (hi : i < css.length), tms ((n + i : Nat) : Int) zSk cs = tms ((n + i : Nat) : Int) zSk css[i] -> tabS n (css.set i cs) = tabS n css
 | [], n, i, cs, hi, _ => by simp at hi
 | c :: css, n, 0, cs, _, h => by
  simp only [List.set_cons_zero, tabS]
  simp only [Nat.add_zero, List.getElem_cons_zero] at h
  rw [h]
 | c :: css, n, i + 1, cs, hi, h => by
  simp only [List.set_cons_succ, tabS]
  rw [tab_set css (n + 1) i cs (by simpa using hi) (by rw [show n + 1 + i = n + (i + 1) by omega]; simpa using h)]
theorem run_app {T : List (List Torder_given)} {g : Int} (c : TCommand) : ∀ (cs : List TCommand) (s : TSkeen), RunOk T g s (cs ++ [c]) ↔ RunOk T g s cs /\ StepOk T (fin g s cs) c (stp g (fin g s cs) c).1
 | [], s => by simp [RunOk, fin]
 | y :: cs, s => by
  rw [List.cons_append]
  simp only [RunOk, fin]
  rw [run_app c cs, and_assoc]
theorem tms_final {g : Int} {s : TSkeen} {c : TCommand} (hV : V s) (k2 : c.Kind = 2) : tms g s [c] = [] := by
 have : (stp g s c).1.Waits.length <= s.Waits.length := by
  rcases apply_ok s g c hV with ⟨e, he, ha, _⟩ | ⟨W, ck, ws, W', hst, ha, hV', hck, h1, h2, h3, h4, h5⟩
  ·simp only [stp, ha, if_neg he]; exact Nat.le_refl _
  ·have hs : stp g s c = (⟨ck, W', s.Done ++ ws.map stW⟩, ws.map TWait.Message) := by simp only [stp, ha, if_true]
   rw [hs]
   show W'.length <= _
   rcases hst with ⟨rfl, _⟩ | ⟨k1, _⟩ | ⟨_, _, k, hk, b1, b2, b3, hWe⟩
   ·omega
   ·omega
   ·have : W.length = s.Waits.length := by rw [hWe]; simp
    omega
 simp only [tms]
 rw [if_neg (by omega)]; rfl
theorem lf2 (a1 : TMessage) (n : Int) (v : Int × Bool × Int) (hv : v.1 = n) : ∀ (l : List TStamp) (b : Bool), (∀ x ∈ l, x.Id = a1.Id -> x.Time <= n) -> zal a1 v l b = some (.inr (b || l.any fun x => decide (x = ⟨n, a1.Id⟩)))
 | [], b, _ => by simp [zal]
 | y :: l, b, h => by
  have hy := h y (List.mem_cons_self ..)
  rw [zal, if_neg (fun hc => by have := hy hc.1; omega), lf2 a1 n v hv l _ fun x hx => h x (List.mem_cons_of_mem _ hx)]
  have he : ((y.Time == v.1) && ((y.Id == a1.Id) && true)) = decide (y = ⟨n, a1.Id⟩) := by
   obtain ⟨y1, y2⟩ := y
   rw [Bool.eq_iff_iff]; simp [hv]
  rw [he]
  simp [Bool.or_assoc]
theorem lf1 {a0 : List (List (List UInt8))} {css : List (List TCommand)} (hc : cssS a0 = some css) (h4 : a0.length <= 4) (a1 : TMessage) (n : Int) (v : Int × Bool × Int) (hv : v.1 = n) : ∀ (gs : List Int) (b : Bool), (∀ g ∈ gs, 0 <= g /\ g < (a0.length : Int) /\ ∀ e ∈ (tabS 0 css).getD g.toNat default, e.fM.Id = a1.Id -> e.fTime <= n) ->
  ∃ b', zar a0 a1 v gs b = some (.inr b') /\ (b' = true ↔ b = true \/ ∃ g ∈ gs, ∃ e ∈ (tabS 0 css).getD g.toNat default, e.fM.Id = a1.Id /\ e.fTime = n)
 | [], b, _ => ⟨b, rfl, by simp⟩
 | g :: gs, b, h => by
  obtain ⟨h0, h1, h2⟩ := h g (List.mem_cons_self ..)
  have hlen := zlr a0 css hc
  have hi : g.toNat < a0.length := by omega
  obtain ⟨l1, l2⟩ := znf a0 css hc g.toNat hi (by omega)
  have hgd : a0.getD g.toNat default = a0[g.toNat] := by simp [List.getD, List.getElem?_eq_getElem hi]
  have hT := zl3 css 0 g.toNat (by omega)
  rw [Nat.zero_add, Int.toNat_of_nonneg h0] at hT
  rw [zar, if_neg (by omega), if_pos ⟨h0, h1⟩, hgd]
  rcases local_eq g a0[g.toNat] with ⟨e, he, hk, _⟩ | ⟨cs, _, hcs, _, hl⟩
  ·exfalso
   unfold askS at hk
   rw [if_neg (by omega), if_neg (by omega), if_neg (by rw [l2]; simp)] at hk
   exact he hk.symm
  rw [l2] at hcs
  cases hcs
  rw [hl]
  simp only [Option.bind_some, not_true_eq_false, if_false]
  rw [lf2 a1 n v hv _ b (fun x hx hid => by
   obtain ⟨e, he, rfl⟩ := List.mem_map.1 hx
   exact h2 e (by rw [hT]; exact he) hid)]
  simp only [Option.bind_some]
  obtain ⟨b', e1, e2⟩ := lf1 hc h4 a1 n v hv gs (b || ((tms g zSk css[g.toNat]).map fun x => (⟨x.fTime, x.fM.Id⟩ : TStamp)).any fun x => decide (x = ⟨n, a1.Id⟩)) fun x hx => h x (List.mem_cons_of_mem _ hx)
  refine ⟨b', e1, ?_⟩
  rw [e2]
  simp only [Bool.or_eq_true, List.any_eq_true, decide_eq_true_eq]
  constructor
  ·rintro ((hb | ⟨x, hx, hxe⟩) | ⟨x, hx, hxe⟩)
   ·exact .inl hb
   ·obtain ⟨e, he, rfl⟩ := List.mem_map.1 hx
    exact .inr ⟨g, List.mem_cons_self .., e, by rw [hT]; exact he, congrArg TStamp.Id hxe, congrArg TStamp.Time hxe⟩
   ·exact .inr ⟨x, List.mem_cons_of_mem _ hx, hxe⟩
  ·rintro (hb | ⟨x, hx, e, he, h5, h6⟩)
   ·exact .inl (.inl hb)
   ·rcases List.mem_cons.1 hx with rfl | hx
    ·rw [hT] at he
     exact .inl (.inr ⟨_, List.mem_map_of_mem he, by rw [h5, h6]⟩)
    ·exact .inr ⟨x, hx, e, he, h5, h6⟩
theorem final_law (a0 : List (List (List UInt8))) (a1 : TMessage) (a2 : Int) : zcl a0 a1 a2 = some true := by
 obtain ⟨gb, hgb⟩ := greatA a0
 rw [zcl, hgb]
 simp only [Option.bind_some]
 split
 ·rfl
 rw [zh9]
 rcases honest_eq a0 with ⟨e, he, _, ho, hh⟩ | ⟨css, b, h4, hc, ho, hh, hb⟩
 ·rw [ho, hh]
  simp [he]
 rw [ho, hh]
 simp only [Option.bind_some, not_true_eq_false, if_false]
 rw [checkm_eq]
 by_cases hm : MOk a1
 case neg => rw [if_neg hm]; simp
 rw [if_pos hm]
 have hM := (MsgOk_iff a1).2 hm
 obtain ⟨hne, hgr⟩ := hM.grp
 obtain ⟨fe, f0, ff⟩ := fT_eq (tabS 0 css) a1 fun g hg => (hgr g hg).1
 simp only [Option.bind_some, not_true_eq_false, if_false, fe]
 cases hT : fT (tabS 0 css) a1 with
 | mk n is =>
 cases is with
 | false => have := f0 n hT; subst this; simp
 | true =>
 obtain ⟨k1, k2, k3⟩ := ff n hT
 have hlen := zlr a0 css hc
 have hTl : (tabS 0 css).length = a0.length := by rw [zl2, hlen]
 rw [hTl] at k1
 -- a group's times
 have hrow : ∀ g ∈ a1.Groups, ∃ hi : g.toNat < css.length, (tabS 0 css).getD g.toNat default = tms g zSk css[g.toNat] := by
  intro g hg
  have h1 := (k1 g hg).1
  have h2 := (hgr g hg).1
  have hi : g.toNat < css.length := by omega
  have hT := zl3 css 0 g.toNat hi
  rw [Nat.zero_add, Int.toNat_of_nonneg h2] at hT
  exact ⟨hi, hT⟩
 obtain ⟨b', e1, e2⟩ := lf1 hc h4 a1 n (n, true, 0) rfl a1.Groups false (fun g hg => ⟨(hgr g hg).1, (k1 g hg).1, fun e he hid => by
  obtain ⟨e0, he0, hm0, ht0⟩ := (k1 g hg).2
  obtain ⟨hi, hr⟩ := hrow g hg
  rw [hr] at he he0
  have := (run_rn0 g css[g.toNat]).one he he0 (by rw [hm0]; exact hid)
  rw [this]; exact ht0⟩)
 have hbt : b' = true := by
  rw [e2]
  right
  rcases k3 with rfl | ⟨g, hg, e, he, h1, h2⟩
  ·exfalso
   obtain ⟨g, hg⟩ := List.exists_mem_of_ne_nil _ hne
   obtain ⟨e, he, _, ht⟩ := (k1 g hg).2
   obtain ⟨hi, hr⟩ := hrow g hg
   rw [hr] at he
   have := ((run_rn0 g css[g.toNat]).d e he).1
   omega
  ·exact ⟨g, hg, e, he, by rw [h1], h2⟩
 have hn : 1 <= n /\ n <= 1073741824 := by
  obtain ⟨g, hg, e, he, _, ht⟩ := (e2.1 hbt).resolve_left (by simp)
  obtain ⟨hi, hr⟩ := hrow g hg
  rw [hr] at he
  have := (run_rn0 g css[g.toNat]).d e he
  omega
 subst hbt
 rw [e1]
 simp only [not_true_eq_false, or_false, if_false, Bool.true_and, Option.bind_some]
 rw [if_pos (fun h => by omega)]
 by_cases hs : ((a2 < 0 \/ a2 >= (a0.length : Int)) \/ ¬ b = true) \/ ((a0.getD a2.toNat default).length : Int) >= 200
 ·rw [if_pos hs]
 rw [if_neg hs]
 have hr : 0 <= a2 /\ a2 < (a0.length : Int) := by omega
 have hbb : b = true := by
  cases hq : b
  ·exact absurd (.inl (.inr (by simp [hq]))) hs
  ·rfl
 have hi : a2.toNat < a0.length := by omega
 have hi' : a2.toNat < css.length := by omega
 have hgd : a0.getD a2.toNat default = a0[a2.toNat] := by simp [List.getD, List.getElem?_eq_getElem hi]
 rw [hgd] at hs ⊢
 rw [if_pos (by omega), if_pos hr, if_pos (by omega)]
 obtain ⟨i0, i1⟩ := hM.id
 have hid : ((a1.Id.toNat : Nat) : Int) = a1.Id := Int.toNat_of_nonneg i0
 have hnn : ((n.toNat : Nat) : Int) = n := Int.toNat_of_nonneg (by omega)
 have hw := final_write a1.Id.toNat n.toNat (by omega) (by omega) (by omega)
 have hrd := final_read a1.Id.toNat n.toNat (by omega) (by omega) (by omega)
 rw [hid, hnn] at hw hrd
 rw [hw]
 simp only [Option.bind_some]
 obtain ⟨l1, l2⟩ := znf a0 css hc a2.toNat hi hi'
 have hca := cmds_app _ _ _ _ l2 hrd
 have hset := css_set a0 css a2.toNat (a0[a2.toNat] ++ [zgy (finB a1.Id.toNat n.toNat)]) _ hc (by simp; omega) hca
 have hVf := (fin_v a2 css[a2.toNat] zSk zn8).1
 have htm : tms ((0 + a2.toNat : Nat) : Int) zSk (css[a2.toNat] ++ [finC a1.Id n]) = tms ((0 + a2.toNat : Nat) : Int) zSk css[a2.toNat] := by
  rw [Nat.zero_add, Int.toNat_of_nonneg hr.1, tms_app, tms_final hVf rfl, List.append_nil]
 have htab := tab_set css 0 a2.toNat _ hi' htm
 obtain ⟨hO, hR⟩ := hb.1 hbb
 rcases honest_eq (a0.set a2.toNat (a0[a2.toNat] ++ [zgy (finB a1.Id.toNat n.toNat)])) with ⟨e, he, hno, _⟩ | ⟨css2, b2, _, hc2, _, hh2, hb2⟩
 ·rw [hno (by simpa using h4)] at hset; cases hset
 rw [hset] at hc2
 cases hc2
 rw [hh2]
 simp only [Option.bind_some]
 have : b2 = true := by
  rw [hb2, htab]
  refine ⟨hO, fun i hi2 => ?_⟩
  rw [List.length_set] at hi2
  rw [List.getElem_set]
  split
  ·rename_i hii
   subst hii
   rw [Int.toNat_of_nonneg hr.1, run_app]
   have h0 := hR a2.toNat hi'
   rw [Int.toNat_of_nonneg hr.1] at h0
   refine ⟨h0, fun _ hne2 => ?_⟩
   obtain ⟨w, hw1, hw2⟩ := stp_final hVf rfl hne2
   obtain ⟨e, he, hem⟩ := (run_rn0 a2 css[a2.toNat]).a w hw1
   -- what waits is the message
   have hrow2 : (tabS 0 css).getD a2.toNat default = tms a2 zSk css[a2.toNat] := by
    have hT := zl3 css 0 a2.toNat hi'
    rwa [Nat.zero_add, Int.toNat_of_nonneg hr.1] at hT
   have mem : ∀ (i : Nat) (x : Torder_given), i < css.length -> x ∈ (tabS 0 css).getD i default -> x ∈ (tabS 0 css).flatten := by
    intro i x hi hx
    have hit : i < (tabS 0 css).length := by rw [zl2]; exact hi
    have : (tabS 0 css).getD i default = (tabS 0 css)[i] := by simp [List.getD, List.getElem?_eq_getElem hit]
    rw [this] at hx
    exact List.mem_flatten.2 ⟨_, List.getElem_mem hit, hx⟩
   obtain ⟨g, hg⟩ := List.exists_mem_of_ne_nil _ hne
   obtain ⟨e0, he0, hm0, _⟩ := (k1 g hg).2
   obtain ⟨hgi, _⟩ := hrow g hg
   have := hO e (mem _ _ hi' (by rw [hrow2]; exact he)) e0 (mem _ _ hgi he0) (by rw [hem, hm0]; exact hw2)
   refine ⟨w, hw1, hw2, ?_⟩
   rw [<- hem, this, hm0]; exact hT
  ·exact hR i hi2
 rw [this]; rfl
end Go.Proofs
end

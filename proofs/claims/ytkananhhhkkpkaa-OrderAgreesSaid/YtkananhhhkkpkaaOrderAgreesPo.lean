/- Texts of the proof. -/
import Derived.WideKeyArgs
import Derived.ChangeSame
import Derived.ChangeArms
import Derived.OpenShut
import Derived.Carry
import Derived.Test.YtkananhhhkkpkaaRows
import Derived.WalkKit
import Derived.ProofKit
import Derived.Test.YtkananhhhkkpkaaOrderAgreesPn
import Derived.Test.YtkananhhhkkpkaaOrderAgreesPf
import Derived.Test.YtkananhhhkkpkaaOrderAgreesPm
section
namespace Go.Proofs
open Go.Tm
set_option linter.unusedSimpArgs false
set_option linter.unusedVariables false
structure Inv (T : List (List Torder_given)) (s : TSkeen) (ts : List Torder_given) (ws : List TWait) : Prop where
 A : ∀ w ∈ s.Waits, w.Final = true -> fT T w.Message = (w.Time, true)
 B : ∀ w ∈ ws, fT T w.Message = (w.Time, true) /\ MsgOk w.Message
 C : ∀ e ∈ ts, (∃ w ∈ s.Waits, w.Message = e.fM /\ (w.Final = false -> w.Time = e.fTime)) \/ ∃ w ∈ ws, w.Message = e.fM
 D : s.Done = ws.map stW
theorem step_inv {T : List (List Torder_given)} {g : Int} {s : TSkeen} {c : TCommand} {ts : List Torder_given} {ws : List TWait} (hV : V s) (hI : Inv T s ts ws) (hS : StepOk T s c (stp g s c).1) :
  ∃ ws1, Inv T (stp g s c).1 (ts ++ if ((stp g s c).1.Waits.length : Int) > (s.Waits.length : Int) then [⟨(stp g s c).1.Clock, c.Message⟩] else []) (ws ++ ws1) /\ (stp g s c).2 = ws1.map TWait.Message := by
 rcases apply_ok s g c hV with ⟨e, he, ha, _⟩ | ⟨W, ck, ws1, W', hst, ha, hV', hck, h1, h2, h3, h4, h5⟩
 ·have hs : stp g s c = (s, []) := by simp only [stp, ha, if_neg he]
  rw [hs]
  refine ⟨[], ?_, rfl⟩
  rw [if_neg (by simp), List.append_nil, List.append_nil]
  exact hI
 ·have hs : stp g s c = (⟨ck, W', s.Done ++ ws1.map stW⟩, ws1.map TWait.Message) := by simp only [stp, ha, if_true]
  rw [hs] at hS ⊢
  have hj := hV.j
  -- what waits ahead of the delivering
  have hWA : ∀ w ∈ W, w.Final = true -> fT T w.Message = (w.Time, true) := by
   intro w hw hf
   rcases hst with ⟨rfl, _⟩ | ⟨_, _, _, rfl⟩ | ⟨k2, _, k, hk, b1, b2, b3, hWe⟩
   ·exact hI.A w hw hf
   ·rcases List.mem_append.1 hw with hw | hw
    ·exact hI.A w (List.mem_of_mem_take hw) hf
    ·rcases List.mem_cons.1 hw with rfl | hw
     ·cases hf
     ·exact hI.A w (List.mem_of_mem_drop hw) hf
   ·rw [hWe] at hw
    rcases List.mem_or_eq_of_mem_set hw with hw | rfl
    ·exact hI.A w hw hf
    ·have hne : s ≠ (⟨ck, W', s.Done ++ ws1.map stW⟩ : TSkeen) := by
      intro he
      have hWW : s.Waits = W' := congrArg TSkeen.Waits he
      have hin : s.Waits[k] ∈ W := h2 _ (hWW ▸ List.getElem_mem hk)
      rw [hWe] at hin
      obtain ⟨i, hi, hie⟩ := List.getElem_of_mem hin
      rw [List.getElem_set] at hie
      split at hie
      ·rw [<- hie] at b2; cases b2
      ·rename_i hki
       simp only [List.length_set] at hi
       have hid : s.Waits[i].Message.Id = s.Waits[k].Message.Id := by rw [hie]
       rcases Nat.lt_or_gt_of_ne hki with hh | hh
       ·have := List.pairwise_iff_getElem.1 hj.w.2 k i hk hi hh; omega
       ·have := List.pairwise_iff_getElem.1 hj.w.2 i k hi hk hh; omega
     obtain ⟨w0, hw0, hid, hf0⟩ := hS k2 hne
     have : w0 = s.Waits[k] := at_id hj.w.2 hw0 (List.getElem_mem hk) (hid.trans b1.symm)
     rw [this] at hf0
     exact hf0
  have hWM : ∀ w ∈ W, MsgOk w.Message := by
   intro w hw
   rcases h3 w hw with hh | hh
   ·exact (hV'.w.1 w hh).1
   ·rcases hst with ⟨rfl, _⟩ | ⟨_, _, _, rfl⟩ | ⟨_, _, k, hk, b1, b2, b3, hWe⟩
    ·exact (hj.w.1 w hw).1
    ·rcases List.mem_append.1 hw with hw | hw
     ·exact (hj.w.1 w (List.mem_of_mem_take hw)).1
     ·rcases List.mem_cons.1 hw with rfl | hw
      ·have := (h1 _ hh).2; cases this
      ·exact (hj.w.1 w (List.mem_of_mem_drop hw)).1
    ·rw [hWe] at hw
     rcases List.mem_or_eq_of_mem_set hw with hw | rfl
     ·exact (hj.w.1 w hw).1
     ·exact (hj.w.1 _ (List.getElem_mem hk)).1
  -- what waited waits still, or was delivered
  have keep : ∀ w ∈ W, (∃ v ∈ W', v = w) \/ ∃ v ∈ ws1, v = w := fun w hw => (h3 w hw).imp (fun h => ⟨w, h, rfl⟩) fun h => ⟨w, h, rfl⟩
  have hCW : ∀ (m : TMessage) (t : Int), (∃ w ∈ s.Waits, w.Message = m /\ (w.Final = false -> w.Time = t)) -> ∃ w ∈ W, w.Message = m /\ (w.Final = false -> w.Time = t) := by
   rintro m t ⟨w, hw, hm, ht⟩
   rcases hst with ⟨rfl, _⟩ | ⟨_, _, _, rfl⟩ | ⟨_, _, k, hk, b1, b2, b3, hWe⟩
   ·exact ⟨w, hw, hm, ht⟩
   ·refine ⟨w, ?_, hm, ht⟩
    have : w ∈ s.Waits.take (plc c.Message.Id s.Waits) ++ s.Waits.drop (plc c.Message.Id s.Waits) := by rw [List.take_append_drop]; exact hw
    rcases List.mem_append.1 this with h | h
    ·exact List.mem_append_left _ h
    ·exact List.mem_append_right _ (List.mem_cons_of_mem _ h)
   ·obtain ⟨i, hi, rfl⟩ := List.getElem_of_mem hw
    by_cases hik : i = k
    ·subst hik
     exact ⟨⟨s.Waits[i].Message, c.Time, true⟩, by rw [hWe]; exact List.mem_set hi _, hm, by intro h; cases h⟩
    ·refine ⟨s.Waits[i], ?_, hm, ht⟩
     rw [hWe]
     have : (s.Waits.set k ⟨s.Waits[k].Message, c.Time, true⟩)[i]'(by simpa using hi) = s.Waits[i] := by rw [List.getElem_set, if_neg (fun h => hik h.symm)]
     rw [<- this]
     exact List.getElem_mem _
  have hC1 : ∀ (m : TMessage) (t : Int), (∃ w ∈ W, w.Message = m /\ (w.Final = false -> w.Time = t)) -> (∃ w ∈ W', w.Message = m /\ (w.Final = false -> w.Time = t)) \/ ∃ w ∈ ws ++ ws1, w.Message = m := by
   rintro m t ⟨w, hw, hm, ht⟩
   rcases h3 w hw with h | h
   ·exact .inl ⟨w, h, hm, ht⟩
   ·exact .inr ⟨w, List.mem_append_right _ h, hm⟩
  refine ⟨ws1, ⟨fun w hw hf => hWA w (h2 w hw) hf, fun w hw => ?_, fun e he => ?_, ?_⟩, rfl⟩
  ·rcases List.mem_append.1 hw with hw | hw
   ·exact hI.B w hw
   ·exact ⟨hWA w (h1 w hw).1 (h1 w hw).2, hWM w (h1 w hw).1⟩
  ·rcases List.mem_append.1 he with he | he
   ·rcases hI.C e he with h | ⟨w, hw, hm⟩
    ·exact hC1 _ _ (hCW _ _ h)
    ·exact .inr ⟨w, List.mem_append_left _ hw, hm⟩
   ·split at he
    ·rename_i hgt
     simp at he
     subst he
     have hgt : (W'.length : Int) > (s.Waits.length : Int) := hgt
     refine hC1 _ _ ?_
     rcases hst with ⟨rfl, _⟩ | ⟨_, _, hc, rfl⟩ | ⟨_, _, k, hk, b1, b2, b3, hWe⟩
     ·omega
     ·exact ⟨⟨c.Message, s.Clock + 1, false⟩, by simp, rfl, fun _ => hc.symm⟩
     ·rw [hWe] at h4; simp at h4; omega
    ·cases he
  ·show s.Done ++ ws1.map stW = _
   rw [hI.D, List.map_append]
theorem run_inv {T : List (List Torder_given)} {g : Int} : ∀ (cs : List TCommand) (s : TSkeen) (ts : List Torder_given) (ws : List TWait), V s -> Inv T s ts ws -> RunOk T g s cs ->
  ∃ ws', Inv T (fin g s cs) (ts ++ tms g s cs) (ws ++ ws') /\ outs g s cs = ws'.map TWait.Message := by
 intro cs
 induction cs with
 | nil => intro s ts ws _ hI _; exact ⟨[], by simpa [fin, tms] using hI, rfl⟩
 | cons c cs ih =>
  intro s ts ws hV hI hR
  obtain ⟨ws1, h1, h2⟩ := step_inv hV hI hR.1
  obtain ⟨r, _, hV', _⟩ := stp_ok (g := g) (c := c) hV
  obtain ⟨ws2, h3, h4⟩ := ih _ _ _ hV' h1 hR.2
  refine ⟨ws1 ++ ws2, ?_, by rw [outs, h2, h4, List.map_append]⟩
  rw [fin, tms, <- List.append_assoc, <- List.append_assoc]
  exact h3
theorem run_inv0 {T : List (List Torder_given)} {g : Int} {cs : List TCommand} (hR : RunOk T g zSk cs) : ∃ ws, Inv T (fin g zSk cs) (tms g zSk cs) ws /\ outs g zSk cs = ws.map TWait.Message := by
 obtain ⟨ws, h1, h2⟩ := run_inv cs zSk [] [] zkc ⟨by simp [zSk], by simp, by simp, rfl⟩ hR
 exact ⟨ws, by simpa using h1, h2⟩
end Go.Proofs
end
section
namespace Go.Proofs
open Go.Tm
set_option linter.unusedSimpArgs false
set_option linter.unusedVariables false
theorem up_ext : ∀ (a b : List TStamp), a.Pairwise ltS -> b.Pairwise ltS -> (∀ x, x ∈ a ↔ x ∈ b) -> a = b
 | [], [], _, _, _ => rfl
 | [], y :: b, _, _, h => by have := (h y).2 (List.mem_cons_self ..); cases this
 | x :: a, [], _, _, h => by have := (h x).1 (List.mem_cons_self ..); cases this
 | x :: a, y :: b, ha, hb, h => by
  obtain ⟨a1, a2⟩ := List.pairwise_cons.1 ha
  obtain ⟨b1, b2⟩ := List.pairwise_cons.1 hb
  have hxy : x = y := by
   rcases List.mem_cons.1 ((h x).1 (List.mem_cons_self ..)) with e | e
   ·exact e
   ·rcases List.mem_cons.1 ((h y).2 (List.mem_cons_self ..)) with e' | e'
    ·exact e'.symm
    ·exact absurd (zl6 (b1 x e) (a1 y e')) (zjt y)
  subst hxy
  rw [up_ext a b a2 b2 fun z => ?_]
  constructor
  ·intro hz
   rcases List.mem_cons.1 ((h z).1 (List.mem_cons_of_mem _ hz)) with e | e
   ·subst e; exact absurd (a1 z hz) (zjt z)
   ·exact e
  ·intro hz
   rcases List.mem_cons.1 ((h z).2 (List.mem_cons_of_mem _ hz)) with e | e
   ·subst e; exact absurd (b1 z hz) (zjt z)
   ·exact e
theorem ag1 : ∀ (l : List TStamp) (m : List (Int × Int)), ∃ m', zcl l m = some m' /\ ∀ k, ((mget k m').getD 0 > 0 ↔ (mget k m).getD 0 > 0 \/ k ∈ l.map TStamp.Id)
 | [], m => ⟨m, rfl, by simp⟩
 | y :: l, m => by
  obtain ⟨m', h1, h2⟩ := ag1 l (mput y.Id 1 m)
  refine ⟨m', h1, fun k => ?_⟩
  rw [h2 k, mget_mput]
  by_cases hk : k = y.Id
  ·subst hk; simp
  ·rw [if_neg hk]; simp [hk]
theorem ag2 (m : List (Int × Int)) (p : TStamp -> Bool) (hp : ∀ x, ((mget x.Id m).getD 0 > 0 ↔ p x = true)) : ∀ (l acc : List TStamp), acc.length + l.length < 1000000 -> zc2 m l acc = some (acc ++ l.filter p)
 | [], acc, _ => by simp [zfq]
 | y :: l, acc, h => by
  simp only [List.length_cons] at h
  rw [zfr]
  by_cases hy : (mget y.Id m).getD 0 > 0
  ·rw [if_pos hy, if_pos (by simp; omega)]
   simp only [Option.bind_some]
   rw [ag2 m p hp l _ (by simp; omega), List.filter_cons, if_pos ((hp y).1 hy)]
   simp
  ·rw [if_neg hy]
   simp only [Option.bind_some]
   rw [ag2 m p hp l _ (by omega), List.filter_cons, if_neg (fun h => hy ((hp y).2 h))]
def com (a b : List TStamp) : List TStamp := a.filter fun x => decide (x.Id ∈ b.map TStamp.Id)
theorem ag_eq (a b : List TStamp) (h : a.length <= 1000) : zdp a b = some (com a b) := by
 obtain ⟨m', h1, h2⟩ := ag1 b []
 rw [zdp, h1]
 simp only [Option.bind_some]
 rw [ag2 m' (fun x => decide (x.Id ∈ b.map TStamp.Id)) (fun x => by rw [h2]; simp [mget]) a [] (by simp; omega)]
 simp [com]
theorem agree_of (a b : List TStamp) (ha : a.length <= 1000) (hb : b.length <= 1000) (h : com a b = com b a) : zdz a b = some true := by
 rw [zdz, ag_eq a b ha, ag_eq b a hb, h]
 simp only [Option.bind_some]
 rw [if_pos (by omega), if_pos (by omega), eqS_eq]
 simp
structure Grp (T : List (List Torder_given)) (g : Nat) (D : List TStamp) (S : List TMessage) (ws : List TWait) (s : TSkeen) : Prop where
 v : V s
 i : Inv T s (T.getD g default) ws
 d : D = ws.map stW
 s : S = ws.map TWait.Message
theorem Grp.D {T g D S ws s} (h : Grp T g D S ws s) : s.Done = D := h.i.D.trans h.d.symm
theorem Grp.len {T g D S ws s} (h : Grp T g D S ws s) : ws.length <= 200 := by
 have := h.v.ld
 rw [h.i.D, List.length_map] at this
 exact this
theorem entry {T : List (List Torder_given)} {m : TMessage} {n : Int} (hm : MsgOk m) (h : fT T m = (n, true)) : ∃ e ∈ T.flatten, e.fM = m := by
 obtain ⟨hne, hg⟩ := hm.grp
 obtain ⟨g, hgm⟩ := List.exists_mem_of_ne_nil _ hne
 obtain ⟨h1, _⟩ := (fT_eq T m fun x hx => (hg x hx).1).2 n h
 obtain ⟨h2, e, he, h3, _⟩ := h1 g hgm
 have hlt : g.toNat < T.length := by have := (hg g hgm).1; omega
 have hx : T.getD g.toNat default = T[g.toNat] := by simp [List.getD, List.getElem?_eq_getElem hlt]
 rw [hx] at he
 exact ⟨e, List.mem_flatten.2 ⟨_, List.getElem_mem hlt, he⟩, h3⟩
theorem same_stamp {T : List (List Torder_given)} (hO : OneS T.flatten) {a b : Nat} {Da Db Sa Sb wa wb sa sb} (ha : Grp T a Da Sa wa sa) (hb : Grp T b Db Sb wb sb) {w v : TWait} (hw : w ∈ wa) (hv : v ∈ wb) (hid : w.Message.Id = v.Message.Id) : stW w = stW v := by
 obtain ⟨f1, m1⟩ := ha.i.B w hw
 obtain ⟨f2, m2⟩ := hb.i.B v hv
 obtain ⟨e1, h1, k1⟩ := entry m1 f1
 obtain ⟨e2, h2, k2⟩ := entry m2 f2
 have hm : w.Message = v.Message := by
  have := hO e1 h1 e2 h2 (by rw [k1, k2, hid])
  rw [<- k1, <- k2, this]
 rw [hm] at f1
 have ht : w.Time = v.Time := congrArg Prod.fst (f1.symm.trans f2)
 unfold stW
 rw [ht, hm]
theorem com_sub {T : List (List Torder_given)} (hO : OneS T.flatten) {a b : Nat} {Da Db Sa Sb wa wb sa sb} (ha : Grp T a Da Sa wa sa) (hb : Grp T b Db Sb wb sb) : ∀ x, x ∈ com Da Db -> x ∈ com Db Da := by
 intro x hx
 simp only [com, List.mem_filter, decide_eq_true_eq] at hx ⊢
 obtain ⟨h1, h2⟩ := hx
 rw [ha.d] at h1
 obtain ⟨w, hw, rfl⟩ := List.mem_map.1 h1
 obtain ⟨y, hy, he⟩ := List.mem_map.1 h2
 rw [hb.d] at hy
 obtain ⟨v, hv, rfl⟩ := List.mem_map.1 hy
 have he : v.Message.Id = w.Message.Id := he
 have := same_stamp hO ha hb hw hv he.symm
 refine ⟨by rw [this, hb.d]; exact List.mem_map_of_mem hv, ?_⟩
 rw [ha.d]
 exact List.mem_map.2 ⟨stW w, List.mem_map_of_mem hw, rfl⟩
theorem Grp.up {T g D S ws s} (h : Grp T g D S ws s) : D.Pairwise ltS := by
 have := h.v.d.2.1
 rwa [h.D] at this
theorem agree_two {T : List (List Torder_given)} (hO : OneS T.flatten) {a b : Nat} {Da Db Sa Sb wa wb sa sb} (ha : Grp T a Da Sa wa sa) (hb : Grp T b Db Sb wb sb) : zdz Da Db = some true := by
 have l1 := ha.len
 have l2 := hb.len
 refine agree_of Da Db (by rw [ha.d, List.length_map]; omega) (by rw [hb.d, List.length_map]; omega) ?_
 exact up_ext _ _ (ha.up.sublist List.filter_sublist) (hb.up.sublist List.filter_sublist) fun x => ⟨com_sub hO ha hb x, com_sub hO hb ha x⟩
theorem no_gap {T : List (List Torder_given)} {a b : Nat} {Da Db Sa Sb wa wb sa sb} (ha : Grp T a Da Sa wa sa) (hb : Grp T b Db Sb wb sb) {w : TWait} (hw : w ∈ wa) (hg : (b : Int) ∈ w.Message.Groups) {x : TStamp} (hx : Db.getLast? = some x) (hl : ¬ ltS x (stW w)) : stW w ∈ Db := by
 obtain ⟨f1, m1⟩ := ha.i.B w hw
 obtain ⟨h1, _⟩ := (fT_eq T w.Message fun x hx => (m1.grp.2 x hx).1).2 w.Time f1
 obtain ⟨_, e, he, h3, h4⟩ := h1 b hg
 rw [Int.toNat_natCast] at he
 rcases hb.i.C e he with ⟨v, hv, h5, h6⟩ | ⟨v, hv, h5⟩
 ·exfalso
  apply hl
  have hvt : v.Time <= w.Time := by
   cases hf : v.Final with
   | true =>
    have := hb.i.A v hv hf
    rw [h5, h3, f1] at this
    have : w.Time = v.Time := congrArg Prod.fst this
    omega
   | false => rw [h6 hf]; exact h4
  have h7 := (hb.v.w.1 v hv).2.2.2.2 x (by rw [hb.D]; exact hx)
  have hid : v.Message.Id = w.Message.Id := by rw [h5, h3]
  unfold ltS stW at *
  simp only at h7 ⊢
  omega
 ·have f2 := (hb.i.B v hv).1
  rw [h5, h3, f1] at f2
  have ht : w.Time = v.Time := congrArg Prod.fst f2
  have : stW w = stW v := by unfold stW; rw [ht, h5, h3]
  rw [this, hb.d]
  exact List.mem_map_of_mem hv
end Go.Proofs
end
section
namespace Go.Proofs
open Go.Tm
set_option linter.unusedSimpArgs false
set_option linter.unusedVariables false
theorem wh2 (S : List TMessage) (b : Int) (i : Nat) (hi : i < S.length) (hl : S[i].Groups.length <= 8) : ∀ (fu k : Nat) (t : Bool), S[i].Groups.length - k < fu -> k <= S[i].Groups.length -> ∃ r, zax S b (i : Int) fu t (k : Int) = some r /\ (r = true -> t = true \/ b ∈ S[i].Groups) := by
 intro fu
 induction fu with
 | zero => intro k t h; omega
 | succ fu ih =>
  intro k t h hk
  have hg : S.getD (i : Int).toNat default = S[i] := by rw [Int.toNat_natCast]; simp [List.getD, List.getElem?_eq_getElem hi]
  rw [zax, if_pos (by omega), hg]
  by_cases hlt : k < S[i].Groups.length
  ·have hgk : S[i].Groups.getD (k : Int).toNat default = S[i].Groups[k] := by rw [Int.toNat_natCast]; simp [List.getD, List.getElem?_eq_getElem hlt]
   rw [if_pos (by omega), if_pos (fun _ => by omega), if_pos (fun _ => by omega), wr_ok _ (by omega), hgk]
   obtain ⟨r, h1, h2⟩ := ih (k + 1) (t || (S[i].Groups[k] == b)) (by omega) (by omega)
   refine ⟨r, h1, fun hr => ?_⟩
   rcases h2 hr with h3 | h3
   ·rcases Bool.or_eq_true .. ▸ h3 with h4 | h4
    ·exact .inl h4
    ·right
     have : S[i].Groups[k] = b := by simpa using h4
     rw [<- this]; exact List.getElem_mem hlt
   ·exact .inr h3
  ·rw [if_neg (by omega)]; exact ⟨t, rfl, fun h => .inl h⟩
theorem wh3 (D : List TStamp) (i : Nat) (hi : i < D.length) : ∀ (l : List TStamp) (t : Bool), zaw D (i : Int) l t = some (t || l.any fun x => decide (x = D[i]))
 | [], t => by simp [zaw]
 | y :: l, t => by
  have hg : D.getD (i : Int).toNat default = D[i] := by rw [Int.toNat_natCast]; simp [List.getD, List.getElem?_eq_getElem hi]
  have he : ((y.Time == D[i].Time) && ((y.Id == D[i].Id) && true)) = decide (y = D[i]) := by
   generalize D[i] = z
   obtain ⟨y1, y2⟩ := y
   obtain ⟨z1, z2⟩ := z
   rw [Bool.eq_iff_iff]; simp
  rw [zaw, if_pos (fun _ => by omega), hg, he, wh3 D i hi l]
  simp [Bool.or_assoc]
theorem whole_loop {T : List (List Torder_given)} {a b : Nat} {Da Db Sa Sb wa wb sa sb} (ha : Grp T a Da Sa wa sa) (hb : Grp T b Db Sb wb sb) : ∀ (fu i : Nat), wa.length - i < fu -> i <= wa.length -> zay Da Sa (b : Int) Db fu (i : Int) = some (.inr ()) := by
 have hla := ha.len
 have hlb := hb.len
 have hDa : Da.length = wa.length := by rw [ha.d]; simp
 have hSa : Sa.length = wa.length := by rw [ha.s]; simp
 have hDb : Db.length = wb.length := by rw [hb.d]; simp
 intro fu
 induction fu with
 | zero => intro i h; omega
 | succ fu ih =>
  intro i h hi
  rw [zay]
  by_cases hlt : i < wa.length
  ·rw [if_pos (by omega)]
   have hSi : Sa[i]'(by omega) = wa[i].Message := by simp [ha.s]
   have hDi : Da[i]'(by omega) = stW wa[i] := by simp [ha.d]
   have hm := (ha.i.B _ (List.getElem_mem hlt)).2
   obtain ⟨r, e1, e2⟩ := wh2 Sa (b : Int) i (by omega) (by rw [hSi]; have := hm.groups; omega) 10 0 false (by rw [hSi]; have := hm.groups; omega) (by omega)
   have e1 : zax Sa (b : Int) (i : Int) 10 false 0 = some r := e1
   rw [e1, hSi] at *
   simp only [Option.bind_some]
   rw [wr_ok ((Db.length : Int) - 1) (by omega), wr_ok ((i : Int) + 1) (by omega)]
   have hnext := ih (i + 1) (by omega) (by omega)
   by_cases hskip : ¬ (r = true) \/ (Db.length : Int) = 0
   ·have hk : ¬ ¬ (¬ (r = true) \/ (Db.length : Int) = 0) := fun h => h hskip
    rw [if_pos (fun h => absurd hskip h), if_pos (fun h => absurd hskip h), if_neg hk]
    simp only [Option.bind_some]
    rw [if_pos (.inl hskip)]
    exact hnext
   ·rw [if_pos (fun _ => by omega), if_pos (fun _ => by omega), if_pos hskip]
    have hr : r = true := Decidable.byContradiction fun h => hskip (.inl h)
    have hne : Db ≠ [] := by rintro rfl; simp at hskip
    have hlast : Db.getLast? = some (Db.getD ((Db.length : Int) - 1).toNat default) := by
     rw [List.getLast?_eq_getElem?, show ((Db.length : Int) - 1).toNat = Db.length - 1 by omega]
     have hp := List.length_pos_iff.2 hne
     simp [List.getD, List.getElem?_eq_getElem (show Db.length - 1 < Db.length by omega)]
    have hgi : Da.getD (i : Int).toNat default = stW wa[i] := by
     rw [Int.toNat_natCast, <- hDi]; simp [List.getD, List.getElem?_eq_getElem (show i < Da.length by omega)]
    rw [less_eq, hgi]
    simp only [Option.bind_some]
    by_cases hlt2 : ltS (Db.getD ((Db.length : Int) - 1).toNat default) (stW wa[i])
    ·rw [if_pos (.inr (by simpa using hlt2))]
     exact hnext
    ·rw [if_neg (by
      rintro (h | h)
      ·exact hskip h
      ·exact hlt2 (by simpa using h))]
     have hmem := no_gap ha hb (List.getElem_mem hlt) ((e2 hr).resolve_left (by simp)) hlast hlt2
     rw [wh3 Da i (by omega)]
     simp only [Option.bind_some]
     have : (false || Db.any fun x => decide (x = Da[i]'(by omega))) = true := by
      rw [Bool.false_or, List.any_eq_true]
      exact ⟨_, hmem, by rw [hDi]; simp⟩
     rw [this, if_neg (by simp)]
     exact hnext
  ·rw [if_neg (by omega)]
theorem whole_two {T : List (List Torder_given)} {a b : Nat} {Da Db Sa Sb wa wb sa sb} (ha : Grp T a Da Sa wa sa) (hb : Grp T b Db Sb wb sb) : zbt Da Sa (b : Int) Db = some true := by
 have hDa : Da.length = wa.length := by rw [ha.d]; simp
 have h := whole_loop ha hb (Da.length + 1) 0 (by omega) (by omega)
 have h : zay Da Sa (b : Int) Db (Da.length + 1) 0 = some (.inr ()) := h
 rw [zbt, h]; rfl
def donS : Nat -> List (List TCommand) -> List (List TStamp)
 | _, [] => []
 | n, cs :: r => (fin (n : Int) zSk cs).Done :: donS (n + 1) r
def saiS : Nat -> List (List TCommand) -> List (List TMessage)
 | _, [] => []
 | n, cs :: r => outs (n : Int) zSk cs :: saiS (n + 1) r
theorem zn2 : ∀ (r : List (List TCommand)) (n i : Nat) (h : i < r.length), (donS n r).length = r.length /\ (saiS n r).length = r.length /\ (donS n r).getD i default = (fin ((n + i : Nat) : Int) zSk r[i]).Done /\ (saiS n r).getD i default = outs ((n + i : Nat) : Int) zSk r[i]
 | cs :: r, n, 0, _ => by
  cases r with
  | nil => simp [donS, saiS]
  | cons d r =>
   obtain ⟨h1, h2, _⟩ := zn2 (d :: r) (n + 1) 0 (by simp)
   refine ⟨?_, ?_, by simp [donS], by simp [saiS]⟩
   ·rw [donS, List.length_cons, h1]; simp
   ·rw [saiS, List.length_cons, h2]; simp
 | cs :: r, n, i + 1, h => by
  have h' : i < r.length := by simpa using h
  obtain ⟨h1, h2, h3, h4⟩ := zn2 r (n + 1) i h'
  have e : n + (i + 1) = n + 1 + i := by omega
  refine ⟨by simp [donS, h1], by simp [saiS, h2], ?_, ?_⟩
  ·simp only [donS, List.getD_cons_succ, List.getElem_cons_succ, h3, e]
  ·simp only [saiS, List.getD_cons_succ, List.getElem_cons_succ, h4, e]
theorem rises_fin (g : Int) (cs : List TCommand) : zec (fin g zSk cs).Done = some true := by
 have h := (fin_v g cs zSk zkc).1
 exact rises_eq _ (by have := h.ld; omega) h.d.2.1
theorem agr1 : ∀ (r : List (List (List UInt8))) (css : List (List TCommand)) (n : Nat) (l3 : List (List TStamp)) (l4 : List (List TMessage)), cssS r = some css -> n + r.length <= 4 -> l3.length <= n -> l4.length <= n -> zao r n l3 l4 = some (.inr (l3 ++ donS n css, l4 ++ saiS n css)) := by
 intro r
 induction r with
 | nil => intro css n l3 l4 h _ _ _; simp [cssS] at h; subst h; simp [zdg, donS, saiS]
 | cons l r ih =>
  intro css n l3 l4 h hn h3 h4
  simp only [List.length_cons] at hn
  simp only [cssS] at h
  split at h
  ·rename_i hl
   split at h
   ·rename_i cs hc
    obtain ⟨d, hd, rfl⟩ := Option.map_eq_some_iff.1 h
    have hp : zdy (n : Int) l = some (fin (n : Int) zSk cs, outs (n : Int) zSk cs, 0) := by
     rcases play_eq (n : Int) l with ⟨e, he, ha, _⟩ | ⟨cs', _, hc', _, hp⟩
     ·exfalso
      apply he
      rw [<- ha]
      unfold askS
      rw [if_neg (by omega), if_neg (by omega), hc]
      simp
     ·rw [hc] at hc'
      cases hc'
      exact hp
    obtain ⟨hv, _, dd, hdd, hdl⟩ := fin_v (n : Int) cs zSk zkc
    have hlen : (outs (n : Int) zSk cs).length = (fin (n : Int) zSk cs).Done.length := by rw [hdd, <- hdl]; simp [zSk]
    rw [zdh, hp]
    simp only [Option.bind_some, not_true_eq_false, false_or, hlen, not_false_eq_true, if_true, rises_fin]
    rw [if_neg (by simp), if_pos (by simp; omega), if_pos (by simp; omega), ih d (n + 1) _ _ hd (by omega) (by simp; omega) (by simp; omega)]
    simp [donS, saiS]
   ·cases h
  ·cases h
theorem agr3 (D : List (List TStamp)) (S : List (List TMessage)) (a : Nat) (ha : a < D.length) (hS : S.length = D.length) (hok : ∀ b, b < D.length -> zdz (D.getD a default) (D.getD b default) = some true /\ zbt (D.getD a default) (S.getD a default) (b : Int) (D.getD b default) = some true) : ∀ (r : List (List (List UInt8))) (n : Nat), n + r.length <= D.length -> zam D S a r n = some (.inr ())
 | [], _, _ => rfl
 | l :: r, n, h => by
  simp only [List.length_cons] at h
  obtain ⟨h1, h2⟩ := hok n (by omega)
  rw [zam, if_pos ha, if_pos (by omega), h1]
  simp only [Option.bind_some, not_true_eq_false, not_false_eq_true, if_true, true_implies, h2]
  rw [if_pos ha, if_pos (by omega), if_pos (by omega), if_neg (by simp)]
  exact agr3 D S a ha hS hok r (n + 1) (by omega)
theorem agr2 (a0 : List (List (List UInt8))) (D : List (List TStamp)) (S : List (List TMessage)) (hS : S.length = D.length) (h0 : a0.length <= D.length) (hok : ∀ a b, a < D.length -> b < D.length -> zdz (D.getD a default) (D.getD b default) = some true /\ zbt (D.getD a default) (S.getD a default) (b : Int) (D.getD b default) = some true) : ∀ (r : List (List (List UInt8))) (n : Nat), n + r.length <= D.length -> zan a0 D S r n = some (.inr ())
 | [], _, _ => rfl
 | l :: r, n, h => by
  simp only [List.length_cons] at h
  rw [zan, agr3 D S n (by omega) hS (fun b hb => hok n b (by omega) hb) a0 0 (by omega)]
  exact agr2 a0 D S hS h0 hok r (n + 1) (by omega)
theorem greatA2 (L : List (List (List UInt8))) (i : Nat) (hi : i < L.length) : ∀ (fu k : Nat) (n : Int), 1000 - k < fu -> k <= 1000 -> ∃ r, zau L (i : Int) fu n (k : Int) = some r := by
 intro fu
 induction fu with
 | zero => intro k n h; omega
 | succ fu ih =>
  intro k n h hk
  rw [zau, if_pos (by omega)]
  by_cases hc : (k : Int) < ((L.getD (i : Int).toNat default).length : Int) /\ (k : Int) < 1000
  ·rw [if_pos hc, if_pos (by omega), if_pos (by omega), wr_ok ((k : Int) + 1) (by omega)]
   exact ih (k + 1) _ (by omega) (by omega)
  ·rw [if_neg hc]; exact ⟨n, rfl⟩
theorem greatA1 (L : List (List (List UInt8))) : ∀ (fu i : Nat) (n : Int), 10 - i < fu -> i <= 10 -> ∃ r, zav L fu n (i : Int) = some r := by
 intro fu
 induction fu with
 | zero => intro i n h; omega
 | succ fu ih =>
  intro i n h hi
  rw [zav]
  by_cases hc : (i : Int) < (L.length : Int) /\ (i : Int) < 10
  ·rw [if_pos hc, wr_ok ((i : Int) + 1) (by omega)]
   obtain ⟨r, hr⟩ := greatA2 L i (by omega) 1002 0 n (by omega) (by omega)
   have hr : zau L (i : Int) 1002 n 0 = some r := hr
   rw [hr]
   simp only [Option.bind_some]
   exact ih (i + 1) _ (by omega) (by omega)
  ·rw [if_neg hc]; exact ⟨n, rfl⟩
theorem greatA (L : List (List (List UInt8))) : ∃ b, zd0 L = some b := by
 obtain ⟨r, hr⟩ := greatA1 L 12 0 0 (by omega) (by omega)
 have hr : zav L 12 0 0 = some r := hr
 rw [zd0, hr]
 exact ⟨_, rfl⟩
theorem grp_of {r : List (List (List UInt8))} {css : List (List TCommand)} (hO : OneS (tabS 0 css).flatten) (hR : ∀ (i : Nat) (h : i < css.length), RunOk (tabS 0 css) (i : Int) zSk css[i]) (i : Nat) (h : i < css.length) : ∃ ws, Grp (tabS 0 css) i ((donS 0 css).getD i default) ((saiS 0 css).getD i default) ws (fin (i : Int) zSk css[i]) := by
 obtain ⟨ws, h1, h2⟩ := run_inv0 (hR i h)
 obtain ⟨_, _, h3, h4⟩ := zn2 css 0 i h
 have h5 := tabS_get css 0 i h
 rw [Nat.zero_add] at h3 h4 h5
 refine ⟨ws, (fin_v (i : Int) css[i] zSk zkc).1, by rw [h5]; exact h1, by rw [h3]; exact h1.D, by rw [h4]; exact h2⟩
theorem agrees_law (a : List (List (List UInt8))) : zcp a = some true := by
 obtain ⟨b, hb⟩ := greatA a
 rw [zcp, hb]
 simp only [Option.bind_some]
 by_cases hbt : b = true
 ·rw [if_pos hbt]
 rw [if_neg hbt]
 obtain ⟨h, e, he, hh⟩ := honest_eq a
 rw [he]
 simp only [Option.bind_some]
 by_cases hc : ¬ (e = 0) \/ ¬ (h = true)
 ·rw [if_pos hc]
 rw [if_neg hc]
 obtain ⟨css, h1, h2, h3, h4⟩ := hh (Decidable.byContradiction fun x => hc (.inl x)) (Decidable.byContradiction fun x => hc (.inr x))
 have hlen := zn3 a css h2
 rw [agr1 a css 0 [] [] h2 (by omega) (by simp) (by simp)]
 simp only [Option.bind_some, List.nil_append]
 have hd : (donS 0 css).length = css.length /\ (saiS 0 css).length = css.length := by
  cases css with
  | nil => exact ⟨rfl, rfl⟩
  | cons c css => obtain ⟨e1, e2, _⟩ := zn2 (c :: css) 0 0 (by simp); exact ⟨e1, e2⟩
 have hag := agr2 a (donS 0 css) (saiS 0 css) (by rw [hd.1, hd.2]) (by omega) (fun i j hi hj => by
  obtain ⟨wi, gi⟩ := grp_of (r := a) h3 h4 i (by omega)
  obtain ⟨wj, gj⟩ := grp_of (r := a) h3 h4 j (by omega)
  exact ⟨agree_two h3 gi gj, whole_two gi gj⟩) a 0 (by omega)
 rw [hag]; rfl
end Go.Proofs
end
section
namespace Go.Tm
open Go.RowKit Go.WideShapes Go.ChangeShapes
def aggT (P : Program) (t : TypeId) : Bool := match P.underlying t with
 | some (.struct _) => true
 | _ => false
def mkD (P : Program) (t : TypeId) (l : List D) : D := bif aggT P t then .agg l else l.headD .undef
def zir (P : Program) (chk : TypeId -> Bool) : Nat -> List Field -> Nat -> Bool
 | off, [], tot => Nat.beq off tot
 | off, f :: fs, tot => Nat.beq f.offset off && chk f.type && zir P chk (off + P.cellsOf f.type) fs tot
def dataT (P : Program) : Nat -> TypeId -> Bool
 | 0, _ => false
 | n + 1, t => match P.underlying t with
  | some .bool => true
  | some (.int _) => true
  | some .string => true
  | some (.slice e) => dataT P n e && Nat.blt 0 (P.cellsOf e) && (aggT P e || Nat.beq (P.cellsOf e) 1)
  | some (.struct fs) => zir P (dataT P n) 0 fs.toList (P.cellsOf t)
  | _ => false
def typedL (p : TypeId -> List D -> Prop) : List TypeId -> List D -> Prop
 | [], l => l = []
 | t :: ts, l => ∃ l1 l2, l = l1 ++ l2 /\ p t l1 /\ typedL p ts l2
def typed (P : Program) : Nat -> TypeId -> List D -> Prop
 | 0, _, _ => False
 | n + 1, t, l => match P.underlying t with
  | some .bool => ∃ b, l = [.bool b]
  | some (.int k) => ∃ m, l = [.int k m]
  | some .string => ∃ s, l = [.str s]
  | some (.slice e) => ∃ xs : List (List D), l = [.imm (P.cellsOf e) (xs.map (mkD P e)) 4] /\ ∀ x ∈ xs, typed P n e x
  | some (.struct fs) => typedL (typed P n) (fs.toList.map (·.type)) l
  | _ => False
theorem zmm {C : Cx} : ∀ {l1 l2 : List D} {v1 v2 : List Value}, reps C l1 v1 -> reps C l2 v2 -> reps C (l1 ++ l2) (v1 ++ v2)
 | [], l2, v1, v2, h1, h2 => by simp only [reps] at h1; subst h1; simpa using h2
 | d :: ds, l2, v1, v2, h1, h2 => by
  simp only [reps] at h1
  obtain ⟨v, vs, rfl, hd, h1⟩ := h1
  simp only [List.cons_append, reps]
  exact ⟨v, vs ++ v2, rfl, hd, zmm h1 h2⟩
theorem elems_of {C : Cx} {b s : Nat} {p : List D -> Prop} {f : List D -> D} : ∀ (n o : Nat), (∀ i, i < n -> ∃ l v, p l /\ rep C (f l) v /\ v.cells.size = s /\ v.cells.toList.all (·.oneCell') = true /\ C.w.rangeAt b (o + i * s) v.cells.toList) ->
  ∃ xs : List (List D), xs.length = n /\ elems C (xs.map f) b o s /\ ∀ x ∈ xs, p x
 | 0, o, _ => ⟨[], rfl, by simp only [List.map_nil, elems], by simp⟩
 | n + 1, o, h => by
  obtain ⟨l, v, h1, h2, h3, h4, h5⟩ := h 0 (by omega)
  obtain ⟨xs, g1, g2, g3⟩ := elems_of n (o + s) (fun i hi => by
   obtain ⟨l, v, h1, h2, h3, h4, h5⟩ := h (i + 1) (by omega)
   exact ⟨l, v, h1, h2, h3, h4, by rwa [show o + (i + 1) * s = o + s + i * s by rw [Nat.add_mul]; omega] at h5⟩)
  refine ⟨l :: xs, by simp [g1], ?_, by simpa using ⟨h1, g3⟩⟩
  simp only [List.map_cons, elems]
  exact ⟨⟨v, h2, h3, h4, by simpa using h5⟩, g2⟩
theorem fieldsIn_le {P : Program} {chk : TypeId -> Bool} : ∀ (fs : List Field) (off tot : Nat), zir P chk off fs tot = true -> off <= tot
 | [], off, tot, h => Nat.le_of_eq (Nat.eq_of_beq_eq_true h)
 | f :: fs, off, tot, h => by
  simp only [zir, Bool.and_eq_true] at h
  have := fieldsIn_le fs _ _ h.2
  omega
section
variable {H : Type} {enc : TypeId × Value -> H} {P : Program} {w : World} {sp : Nat -> Bool}
theorem zn5 : ∀ (n fuel : Nat) (t : TypeId) (cs : List Value) (x : DataW H × List MemPlace) (C : Cx), C.w = w -> (∀ b, ¬ C.M b) -> (∀ b, C.Z b) -> dataT P n t = true -> DataW.trod enc P w 0 sp true fuel t cs = some x ->
  ∃ l, reps C l cs /\ typed P n t l /\ cs.all (·.oneCell') = true
 | 0, _, _, _, _, _, _, _, _, h, _ => by simp [dataT] at h
 | n + 1, fuel, t, cs, x, C, hw, hM, hlo, hd, h => by
  unfold dataT at hd
  split at hd
  ·rename_i ht
   simp only [typed, ht]
   obtain ⟨b, rfl, _⟩ := DataW.trod_bool ht h
   exact ⟨[.bool b], by simp only [reps, rep]; exact ⟨_, _, rfl, rfl, rfl⟩, ⟨b, rfl⟩, rfl⟩
  ·rename_i k ht
   simp only [typed, ht]
   obtain ⟨m, rfl, _, hwf⟩ := DataW.trod_int ht h
   simp only [Lit.wf, Bool.and_eq_true, decide_eq_true_eq] at hwf
   exact ⟨[.int k m], by simp only [reps, rep]; exact ⟨_, _, rfl, ⟨rfl, hwf⟩, rfl⟩, ⟨m, rfl⟩, rfl⟩
  ·rename_i ht
   simp only [typed, ht]
   obtain ⟨s, rfl, _, hs⟩ := DataW.trod_string ht h
   refine ⟨[.str s.data.toList], ?_, ⟨_, rfl⟩, rfl⟩
   simp only [reps, rep]
   refine ⟨_, _, rfl, ⟨by rw [Array.toArray_toList], ?_⟩, rfl⟩
   have h1 : s.data.toList.length = s.size := by rw [Array.length_toList]; rfl
   have h2 : s.size <= 9223372036854775807 := hs
   rw [h1]; omega
  ·rename_i e ht
   simp only [typed, ht]
   simp only [Bool.and_eq_true, Bool.or_eq_true] at hd
   obtain ⟨⟨hde, hpos⟩, hone⟩ := hd
   have hpos : 0 < P.cellsOf e := Nat.le_of_ble_eq_true hpos
   rcases DataW.trod_slice ht h with ⟨rfl, _⟩ | ⟨a, len, cap, els, rest, m, _, rfl, _, hb, hl, hc, hlen, hel, _⟩
   ·refine ⟨[.imm (P.cellsOf e) (([] : List (List D)).map (mkD P e)) 4], ?_, ⟨[], rfl, fun _ h => by cases h⟩, rfl⟩
    simp only [reps, rep, List.map_nil, List.length_nil]
    exact ⟨_, _, rfl, ⟨none, 0, rfl, by simp, by simp, by simp, by simp, by simp, by simp, by simp, .inl trivial⟩, rfl⟩
   ·have hc : cap <= 9223372036854775807 := hc
    have key : ∀ i, i < len -> ∃ l v, typed P n e l /\ rep (C.at C.Z) (mkD P e l) v /\ v.cells.size = P.cellsOf e /\ v.cells.toList.all (·.oneCell') = true /\ (i = 0 -> a.spot = none) /\ a.block < w.heap.size /\ w.rangeAt a.block (a.off + i * P.cellsOf e) v.cells.toList := by
     intro i hi
     have hi' := hel i hi
     have hsome : els[i]? = some els[i] := List.getElem?_eq_getElem (by omega)
     rw [hsome, Option.bind_eq_some_iff] at hi'
     obtain ⟨cs', hcs, htr⟩ := hi'
     obtain ⟨_, hclen, hcell⟩ := World.cells?_some hcs
     obtain ⟨l, g1, g2, g3⟩ := zn5 n m e cs' _ (C.at C.Z) (by simpa [Cx.at] using hw) (by simpa [Cx.at] using hM) (by simpa [Cx.at] using hlo) hde htr
     have h0 := hcell 0 hpos
     have hc0 : cs'[0]? = some cs'[0] := List.getElem?_eq_getElem (by omega)
     rw [hc0] at h0
     have hadd : ∀ j, ((a.add (i * P.cellsOf e)).add j).block = a.block := by intro j; unfold Addr.add; split <;> split <;> rfl
     have hblk : a.block < w.heap.size /\ ((a.add (i * P.cellsOf e)).add 0).spot = none := by
      unfold World.cell? at h0
      rw [hadd] at h0
      split at h0
      ·rename_i c T fz hh
       have := (Array.getElem?_eq_some_iff.1 hh).1
       split at h0
       ·cases h0
       ·rename_i hs; exact ⟨this, by simpa using hs⟩
      ·cases h0
     have hspot0 : (a.add (i * P.cellsOf e)).spot = none := by simpa [Addr.add] using hblk.2
     have hae : ∀ j, j < P.cellsOf e -> (a.add (i * P.cellsOf e)).add j = ⟨a.block, a.off + i * P.cellsOf e + j, none⟩ := by
      intro j _
      unfold Addr.add at hspot0 ⊢
      split at hspot0
      ·rename_i hz
       simp only [hz, if_true, Nat.add_zero]
       split
       ·rename_i hj; subst hj; cases a; simp_all
       ·rfl
      ·rename_i hz
       simp only [hz, if_false]
       split
       ·rename_i hj; subst hj; rfl
       ·rfl
     have hrange : w.rangeAt a.block (a.off + i * P.cellsOf e) cs' := by
      intro j v hj
      have hjl := (List.getElem?_eq_some_iff.1 hj).1
      have := hcell j (by omega)
      rw [hae j (by omega), hj] at this
      exact this
     cases hag : aggT P e with
     | true =>
      refine ⟨l, .agg cs'.toArray, g2, ?_, by simp [Value.cells, hclen], by simpa [Value.cells] using g3, ?_, hblk.1, by simpa [Value.cells] using hrange⟩
      ·simp only [mkD, hag, cond_true, rep]
       exact ⟨cs', rfl, g1⟩
      ·rintro rfl; simpa [Addr.add] using hspot0
     | false =>
      rw [hag] at hone
      have h1 : P.cellsOf e = 1 := by simpa using hone
      rw [h1] at hclen
      obtain ⟨v, rfl⟩ := List.length_eq_one_iff.1 hclen
      obtain ⟨d, rfl⟩ : ∃ d, l = [d] := List.length_eq_one_iff.1 ((zd1 _ _ g1).symm.trans rfl)
      simp only [reps] at g1
      obtain ⟨v', vs', hv, hd, rfl⟩ := g1
      obtain rfl : v = v' := (List.cons.inj hv).1
      have hcv : v.cells = #[v] := by
       simp only [List.all_cons, List.all_nil, Bool.and_true] at g3
       cases v <;> first | rfl | simp [Value.oneCell'] at g3
      refine ⟨[d], v, g2, by simpa [mkD, hag] using hd, by simp [hcv, h1], by simpa [hcv] using g3, ?_, hblk.1, by simpa [hcv] using hrange⟩
      rintro rfl; simpa [Addr.add] using hspot0
    obtain ⟨xs, g1, g2, g3⟩ := elems_of (C := C.at C.Z) (b := a.block) (s := P.cellsOf e) (p := typed P n e) (f := mkD P e) len a.off (fun i hi => by
     obtain ⟨l, v, h1, h2, h3, h4, _, _, h5⟩ := key i hi
     exact ⟨l, v, h1, h2, h3, h4, by subst hw; exact h5⟩)
    refine ⟨[.imm (P.cellsOf e) (xs.map (mkD P e)) 4], ?_, ⟨xs, rfl, g3⟩, rfl⟩
    simp only [reps, rep, List.length_map, g1]
    refine ⟨_, _, rfl, ⟨some a, cap, rfl, hl, by omega, by simp, by simp, by simp, by simp, by simp, ?_⟩, rfl⟩
    rcases Nat.eq_zero_or_pos len with h0 | h0
    ·left; subst h0; have := List.length_eq_zero_iff.1 g1; simp [this]
    ·right
     obtain ⟨_, _, _, _, _, _, k1, k2, _⟩ := key 0 h0
     intro Z hZ
     have hZ : C.Z = Z := by simpa [Cx.zone] using hZ
     subst hZ
     exact ⟨a, rfl, k1 rfl, hM _, hlo _, by rw [hw]; exact k2, g2⟩
  ·rename_i fs ht
   simp only [typed, ht]
   obtain ⟨xs, m, _, _, hcl, hxl, hf⟩ := DataW.trod_struct ht h
   have key : ∀ (gs : List Field) (k : Nat), (∀ i f, gs[i]? = some f -> fs[k + i]? = some f) -> ∀ off, zir P (dataT P n) off gs (P.cellsOf t) = true -> off <= cs.length -> 
     ∃ l, reps C l (cs.drop off) /\ typedL (typed P n) (gs.map (·.type)) l /\ (cs.drop off).all (·.oneCell') = true := by
    intro gs
    induction gs with
    | nil =>
     intro k _ off ho _
     simp only [zir] at ho
     have ho := Nat.eq_of_beq_eq_true ho
     have : cs.drop off = [] := by rw [ho, <- hcl]; simp
     rw [this]
     exact ⟨[], by simp only [reps], rfl, rfl⟩
    | cons f gs ih =>
     intro k hk off ho hle
     simp only [zir, Bool.and_eq_true] at ho
     obtain ⟨⟨h1, h2⟩, h3⟩ := ho
     have h1 := Nat.eq_of_beq_eq_true h1
     have hfk := hf k f (by simpa using hk 0 f rfl)
     have hkl : k < xs.length := by
      have := hk 0 f rfl
      rw [hxl]
      exact (Array.getElem?_eq_some_iff.1 (by simpa using this)).1
     rw [List.getElem?_eq_getElem hkl, h1] at hfk
     obtain ⟨l1, g1, g2, g3⟩ := zn5 n m f.type _ _ C hw hM hlo h2 hfk
     have hl1 : ((cs.drop off).take (P.cellsOf f.type)).length = P.cellsOf f.type := by
      have := fieldsIn_le _ _ _ h3
      simp
      omega
     obtain ⟨l2, k1, k2, k3⟩ := ih (k + 1) (fun i f' hi => by have := hk (i + 1) f' (by simpa using hi); rwa [show k + (i + 1) = k + 1 + i by omega] at this) (off + P.cellsOf f.type) h3 (by
      simp at hl1; omega)
     have e : cs.drop off = (cs.drop off).take (P.cellsOf f.type) ++ cs.drop (off + P.cellsOf f.type) := by
      rw [<- List.drop_drop, List.take_append_drop]
     refine ⟨l1 ++ l2, by rw [e]; exact zmm g1 k1, ⟨l1, l2, rfl, g2, k2⟩, by rw [e, List.all_append, g3, k3]; rfl⟩
   simpa using key fs.toList 0 (fun i f hi => by simpa using hi) 0 hd (Nat.zero_le _)
  ·cases hd
theorem trod_rep {r : Reach} {b0 n : Nat} {t : TypeId} {v : Value} {d : DataW H} {ps : List MemPlace} {fr : Nat} (hd : dataT P n t = true) (hval : Value.okWide P w r b0 t v) (h : DataW.Trod enc P w 0 sp true t v d ps) :
  ∃ l, typed P n t l /\ rep (cx0 w fr) (mkD P t l) v := by
 obtain ⟨fuel, h⟩ := h
 obtain ⟨l, h1, h2, h3⟩ := zn5 n fuel t _ _ (cx0 w fr) rfl (fun _ h => h) (fun _ => trivial) hd h
 refine ⟨l, h2, ?_⟩
 unfold mkD aggT
 cases n with
 | zero => simp [dataT] at hd
 | succ n =>
  unfold dataT at hd
  unfold Value.okWide at hval
  split at hd
  case h_5 fs ht =>
   rw [ht] at hval ⊢
   obtain ⟨cs, rfl, _⟩ := hval
   simp only [cond_true, rep]
   exact ⟨cs.toList, by simp, by simpa [Value.cells] using h1⟩
  case h_6 => cases hd
  all_goals
   rename_i ht
   rw [ht] at hval ⊢
   simp only [cond_false]
   have hcv : v.cells = #[v] := by
    cases v with
    | agg cs => simp [Cell.okWide, Cell.ok, ht] at hval
    | _ => rfl
   rw [hcv] at h1
   have hl : ∃ d, l = [d] := List.length_eq_one_iff.1 ((zd1 _ _ h1).symm.trans rfl)
   obtain ⟨d, rfl⟩ := hl
   simp only [reps] at h1
   obtain ⟨v', vs', hv, hd', _⟩ := h1
   obtain rfl : v = v' := by simpa using (List.cons.inj hv).1
   exact hd'
def zic (P : Program) (n : Nat) : List TypeId -> List D -> Prop
 | [], l => l = []
 | t :: ts, l => ∃ c r, l = mkD P t c :: r /\ typed P n t c /\ zic P n ts r
theorem zmh {r : Reach} {b0 n fr : Nat} : ∀ {ts : List TypeId} {vs : List Value} {ds : List (DataW H)} {ps : List MemPlace}, ts.all (dataT P n) = true -> (∀ (j : Nat) t v, ts[j]? = some t -> vs[j]? = some v -> Value.okWide P w r b0 t v) ->
  DataW.TrodAll enc P w 0 sp true ts vs ds ps -> ∃ l, zic P n ts l /\ reps (cx0 w fr) l vs
 | [], [], [], _, _, _, _ => ⟨[], rfl, by simp only [reps]⟩
 | t :: ts, v :: vs, d :: ds, ps, hd, hval, h => by
  obtain ⟨p, q, h1, h2, _⟩ := h
  simp only [List.all_cons, Bool.and_eq_true] at hd
  obtain ⟨c, g1, g2⟩ := trod_rep (fr := fr) hd.1 (hval 0 t v rfl rfl) h1
  obtain ⟨l, k1, k2⟩ := zmh hd.2 (fun j t v h h' => hval (j + 1) t v h h') h2
  exact ⟨_ :: l, ⟨c, l, rfl, g1, k1⟩, by simp only [reps]; exact ⟨_, _, rfl, g2, k2⟩⟩
 | [], _ :: _, _, _, _, _, h => h.elim
 | [], [], _ :: _, _, _, _, h => h.elim
 | _ :: _, [], _, _, _, _, h => h.elim
 | _ :: _, _ :: _, [], _, _, _, h => h.elim
theorem zkv (hl : laidOutB P = true) {W W' : World} (hB : Below W.heap.size W W') {sp' : Nat -> Bool} : ∀ {ts : List TypeId} {vs : List Value} {ds : List (DataW H)} {ps : List MemPlace}, (ts.all fun t => P.readableRec t && Nat.blt t P.types.size) = true ->
  DataW.TrodAll enc P W 0 (fun _ => true) true ts vs ds ps -> (∀ p ∈ ps, p.block < W.heap.size /\ sp' p.block = true) -> DataW.TrodAll enc P W' 0 sp' true ts vs ds ps
 | [], [], [], _, _, h, _ => h
 | t :: ts, v :: vs, d :: ds, ps, hr, h, hp => by
  obtain ⟨p, q, h1, h2, rfl⟩ := h
  simp only [List.all_cons, Bool.and_eq_true] at hr
  refine ⟨p, q, WideElems.Trod_stays hl hr.1.1 (Nat.le_of_ble_eq_true hr.1.2) h1 (fun x hx => hB.same (hp x (by simp [hx])).1) (fun x hx => (hp x (by simp [hx])).2), ?_, rfl⟩
  exact zkv hl hB hr.2 h2 fun x hx => hp x (by simp [hx])
 | [], _ :: _, _, _, _, h, _ => h.elim
 | [], [], _ :: _, _, _, h, _ => h.elim
 | _ :: _, [], _, _, _, h, _ => h.elim
 | _ :: _, _ :: _, [], _, _, h, _ => h.elim
theorem law_contract {K : FuncId} {f : Func} {s : ChangeSpec} {apart fresh : Bool} {n : Nat} {tb : TypeId} (hl : laidOutB P = true) (hr : (f.params.toList.all fun t => P.readableRec t && Nat.blt t P.types.size) = true)
  (hd : f.params.toList.all (dataT P n) = true) (hvars : s.vars = []) (hres : f.resultTypes = #[tb]) (hb : P.underlying tb = some .bool)
  (hfn : ∀ ds : List (DataW H), ds.length = f.params.size -> s.fn H ds = { results := [.lit (.bool true)], args := ds })
  (hK : ∀ l, zic P n f.params.toList l -> CallP P K l (.bool true)) {W : World} {base : Nat} {args : Array Value} {ds gs : List (DataW H)} {before : List MemPlace}
  (hval : ∀ (j : Nat) t v, f.params[j]? = some t -> args[j]? = some v -> Value.okWide P W .any base t v) (hW : DataW.Whole enc P f.params.toList s.vars apart W args.toList ds gs before) :
  Calls P K args W fun e W' => ∃ v, e = .returned v /\ s.post enc P f apart fresh false false W args v W' := by
 have hW' := hW
 obtain ⟨p, q, hA, hV, rfl, hfz, hnd⟩ := hW
 rw [hvars] at hV
 have hlen : ds.length = f.params.size := by
  have : ∀ {ts : List TypeId} {vs : List Value} {ds : List (DataW H)} {ps : List MemPlace}, DataW.TrodAll enc P W 0 (fun _ => true) true ts vs ds ps -> ds.length = ts.length := by
   intro ts
   induction ts with
   | nil => intro vs ds ps h; cases vs <;> cases ds <;> first | rfl | exact h.elim
   | cons t ts ih => intro vs ds ps h; cases vs <;> cases ds <;> first | (obtain ⟨_, _, _, h2, _⟩ := h; simp [ih h2]) | exact h.elim
  simpa using this hA
 have hgs : gs = [] /\ q = [] := by
  cases gs with
  | nil => exact ⟨rfl, hV⟩
  | cons g gs => exact hV.elim
 obtain ⟨rfl, rfl⟩ := hgs
 obtain ⟨l, h1, h2⟩ := zmh (fr := W.heap.size) hd (fun j t v h h' => hval j t v (by simpa using h) (by simpa using h')) hA
 refine ((hK l h1).2 W _ h2).mono fun e W' ⟨v, he, hk, _, hv⟩ => ⟨v, he, ?_⟩
 simp only [rep] at hv
 subst hv
 have hB := hk.below
 have hlt := hW'.lt
 have hf := hfn ds hlen
 refine ⟨ds, [], p ++ [], [], p, [], hW', ?_, ?_, ?_, ?_, fun h => by cases h⟩
 ·rw [List.append_nil, hf, hres]
  exact ⟨[], [], ⟨1, by simp [DataW.trod, Value.cells, hb]⟩, rfl, rfl⟩
 ·rw [List.append_nil, hf]
  exact zkv hl hB hr hA fun x hx => ⟨hlt x (by simp [hx]), by simpa using hlt x (by simp [hx])⟩
 ·rw [List.append_nil, hf, hvars]
  rfl
 ·exact hB.frame _
end
theorem list_of {α : Type} {f : α -> D} {g : List D -> D} : ∀ (xs : List (List D)), (∀ x ∈ xs, ∃ y, g x = f y) -> ∃ l : List α, xs.map g = l.map f
 | [], _ => ⟨[], rfl⟩
 | x :: xs, h => by
  obtain ⟨y, hy⟩ := h x (by simp)
  obtain ⟨l, hl⟩ := list_of xs fun x hx => h x (by simp [hx])
  exact ⟨y :: l, by simp only [List.map_cons, hy, hl]⟩
section
variable {P : Program} {n : Nat} {t : TypeId} {l : List D}
theorem zm2 {d : D} (ha : aggT P t = false) : mkD P t [d] = d := by simp only [mkD, ha, cond_false, List.headD_cons]
theorem typed_str (hu : P.underlying t = some .string) (h : typed P (n + 1) t l) : ∃ s, l = [.str s] := by
 rw [typed, hu] at h; exact h
theorem typed_list {α : Type} (f : α -> D) {e : TypeId} {s : Nat} (hu : P.underlying t = some (.slice e)) (ha : aggT P t = false) (hc : P.cellsOf e = s) (hx : ∀ x, typed P n e x -> ∃ y, mkD P e x = f y) (h : typed P (n + 1) t l) :
  ∃ m : List α, mkD P t l = .imm s (m.map f) 4 := by
 rw [typed, hu] at h
 obtain ⟨xs, rfl, hxs⟩ := h
 obtain ⟨m, hm⟩ := list_of (f := f) (g := mkD P e) xs fun x hx' => hx x (hxs x hx')
 exact ⟨m, by rw [zm2 ha, hm, hc]⟩
theorem typed_one {e : TypeId} (hu : P.underlying t = some (.slice e)) (h : typed P (n + 1) t l) : ∃ d, l = [d] := by
 rw [typed, hu] at h
 obtain ⟨xs, rfl, _⟩ := h
 exact ⟨_, rfl⟩
theorem typedAll_cons {ts : List TypeId} (h : zic P n (t :: ts) l) : ∃ c r, l = mkD P t c :: r /\ typed P n t c /\ zic P n ts r := h
theorem typedAll_nil (h : zic P n [] l) : l = [] := h
end
end Go.Tm
end
section
namespace Go.Proofs.Ytkananhhhkkpkaa.orderAgrees
open Go.ChangeShapes Go.WideShapes Go.RowKit Go.Tm
set_option maxRecDepth 100000
theorem own : ownKnob Try.prog.godebug = none := by kernel_rfl
theorem agg22 : aggT Try.prog 22 = false := by kernel_rfl
theorem agg36 : aggT Try.prog 36 = false := by kernel_rfl
theorem agg9 : aggT Try.prog 9 = false := by kernel_rfl
theorem cells9 : Try.prog.cellsOf 9 = 1 := by kernel_rfl
theorem tc36 {n : Nat} {l : List D} (h : typed Try.prog (n + 2) 36 l) : ∃ m : List (List UInt8), l = [.imm 1 (m.map D.str) 4] := by
 obtain ⟨d, hd⟩ := typed_one Try.underlying36 h
 obtain ⟨m, hm⟩ := typed_list D.str Try.underlying36 agg36 cells9 (fun x hx => by
  obtain ⟨a, ha⟩ := typed_str Try.underlying9 hx
  exact ⟨a, ha ▸ zm2 agg9⟩) h
 rw [hd, zm2 agg36] at hm
 exact ⟨m, by rw [hd, hm]⟩
theorem cells36 : Try.prog.cellsOf 36 = 1 := by kernel_rfl
theorem tc22 {n : Nat} {l : List D} (h : typed Try.prog (n + 3) 22 l) : ∃ m : List (List (List UInt8)), l = [.imm 1 (m.map zdr) 4] := by
 obtain ⟨d, hd⟩ := typed_one Try.underlying22 h
 obtain ⟨m, hm⟩ := typed_list zdr Try.underlying22 agg22 cells36 (fun x hx => by
  obtain ⟨a, ha⟩ := tc36 (n := n) hx
  exact ⟨a, ha ▸ zm2 agg36⟩) h
 rw [hd, zm2 agg22] at hm
 exact ⟨m, by rw [hd, hm]⟩
theorem params4 : Try.f4.params.toList = [22] := by kernel_rfl
theorem hK (l : List D) (h : zic Try.prog 8 Try.f4.params.toList l) : CallP Try.prog 4 l (.bool true) := by
 rw [params4] at h
 obtain ⟨c0, r0, e0, h0, h⟩ := typedAll_cons h
 have ez := typedAll_nil h
 obtain ⟨a0, f0⟩ := tc22 (n := 5) h0
 rw [e0, ez, f0, zm2 agg22]
 exact zfx a0 _ (agrees_law a0)
set_option maxRecDepth 100000 in
theorem lifted (os : Os) (started : os.Started) (H : Type) (enc : TypeId × Value -> H) :
  ReturnsInHanded {} Try.checked os 4 .any (Rows.orderAgreesSpec.pre6 enc Try.prog Try.f4 Rows.orderAgreesRow.domain false) (Rows.orderAgreesSpec.post enc Try.prog Try.f4 false true false false) := by
 refine returnsInHanded_of_change (C := Try.checked) own started (by kernel_rfl) Try.func4
  (ChangeSpec.witness6 (enc := enc) (C := Try.checked) false ⟨#[], #[.slice none 0 0], []⟩ 8 (by kernel_rfl) (by kernel_rfl) (by kernel_rfl) (by kernel_rfl)) ?_
 intro W base args ds gs before hval hW _ _
 exact law_contract (K := 4) (n := 8) (tb := 4) (by kernel_rfl) (by kernel_rfl) (by kernel_rfl) rfl rfl Try.underlying4 (fun ds h => by
  match ds, h with
  | [_], _ => rfl) hK hval hW
end Go.Proofs.Ytkananhhhkkpkaa.orderAgrees
end

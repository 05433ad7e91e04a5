/- Texts of the proof. -/
import Derived.Test.YtkananhhhkkpkaaOrderAgreesPf
import Derived.Test.YtkananhhhkkpkaaOrderAgreesPh
import Derived.Test.YtkananhhhkkpkaaOrderAgreesPj
import Derived.Test.YtkananhhhkkpkaaOrderAgreesPl
section
namespace Go.Proofs
open Go.Tm
def zj8 : Int -> List Int -> Bool
 | _, [] => true
 | last, n :: r => decide (last < n) && decide (n < 6) && zj8 n r
end Go.Proofs
end
section
namespace Go.Proofs
open Go.Tm
set_option linter.unusedSimpArgs false
set_option linter.unusedVariables false
theorem index_loop (v : Int) (l : List Int) : ∀ n : Nat, (v ∈ l -> ∃ k : Nat, zaz v l n = some (.inl (k : Int))) /\ (v ∉ l -> zaz v l n = some (.inr ())) := by
 induction l with
 | nil => intro n; exact ⟨(fun h => by cases h), fun _ => rfl⟩
 | cons y l ih =>
  intro n
  rw [zaz]
  by_cases h : v = y
  ·rw [if_pos h]
   exact ⟨fun _ => ⟨n, rfl⟩, fun hn => absurd (h ▸ List.mem_cons_self) hn⟩
  ·rw [if_neg h]
   refine ⟨fun hv => (ih (n + 1)).1 ?_, fun hv => (ih (n + 1)).2 fun hh => hv (List.mem_cons_of_mem _ hh)⟩
   rcases List.mem_cons.1 hv with hv | hv
   ·exact absurd hv h
   ·exact hv
theorem contains_eq (l : List Int) (v : Int) : zch l v = some (decide (v ∈ l)) := by
 rw [zch, zds]
 by_cases h : v ∈ l
 ·obtain ⟨k, hk⟩ := (index_loop v l 0).1 h
  rw [hk]
  simp [h]
 ·rw [(index_loop v l 0).2 h]
  simp [h]
theorem rises_lt : ∀ (l : List Int) (k : Int), zj8 k l = true -> ∀ x ∈ l, k < x /\ x < 6 := by
 intro l
 induction l with
 | nil => intro _ _ x hx; cases hx
 | cons y l ih =>
  intro k h x hx
  simp only [zj8, Bool.and_eq_true, decide_eq_true_eq] at h
  rcases List.mem_cons.1 hx with rfl | hx
  ·exact h.1
  ·have := ih y h.2 x hx
   omega
theorem qcheck_loop (l : List Int) : ∀ n, zbr l n = some (if zj8 n l = true then .inr (l.getLastD n) else .inl 60) := by
 induction l with
 | nil => intro n; simp [zbr, zj8]
 | cons y l ih =>
  intro n
  rw [zbr]
  by_cases h : (y <= n) \/ (y >= 6)
  ·rw [if_pos h, if_neg (by simp only [zj8, Bool.and_eq_true, decide_eq_true_eq]; omega)]
  ·rw [if_neg h, ih]
   have : zj8 n (y :: l) = zj8 y l := by
    simp only [zj8]
    have h1 : decide (n < y) = true := by simp; omega
    have h2 : decide (y < 6) = true := by simp; omega
    simp [h1, h2]
   rw [this, List.getLastD_cons]
def qerr (l : List Int) : Int := if l.length > 6 then 4 else if zj8 (-1) l = true /\ l ≠ [] then 0 else 60
theorem qcheck_eq (l : List Int) : zf7 l = some (qerr l) := by
 rw [zf7]
 unfold qerr
 by_cases h : (l.length : Int) > 6
 ·rw [if_pos h, if_pos (by omega)]
 ·rw [if_neg h, if_neg (by omega), qcheck_loop]
  by_cases hr : zj8 (-1) l = true
  ·rw [if_pos hr]
   cases l with
   | nil => simp
   | cons y l =>
    have hl := (rises_lt (y :: l) (-1) hr ((y :: l).getLastD (-1)) (by rw [List.getLastD_eq_getLast?, List.getLast?_eq_some_getLast (by simp)]; exact List.getLast_mem (by simp))).1
    simp only [Option.bind_some, ne_eq, reduceCtorEq, not_false_eq_true, and_true, if_pos hr]
    rw [if_neg (by omega)]
  ·rw [if_neg hr]
   simp [hr]
theorem equal_loop (b : List Int) : ∀ (l : List Int) (n : Nat), n + l.length = b.length -> zb0 b l n = some (if l = b.drop n then .inr () else .inl false) := by
 intro l
 induction l with
 | nil => intro n h; simp [zb0]; simp at h; omega
 | cons y l ih =>
  intro n h
  simp only [List.length_cons] at h
  have hn : n < b.length := by omega
  have hg : b.getD n default = b[n] := by simp [List.getD, List.getElem?_eq_getElem hn]
  have hd := List.drop_eq_getElem_cons hn
  rw [zb0, if_pos hn, hg]
  generalize b[n] = z at hd
  rw [hd]
  by_cases hy : y = z
  ·rw [if_neg (by simpa using hy), ih (n + 1) (by omega)]
   simp only [hy, List.cons.injEq, true_and]
  ·rw [if_pos hy]
   simp only [hy, List.cons.injEq, false_and, if_false]
theorem equal_eq (a b : List Int) : zcg a b = some (decide (a = b)) := by
 rw [zcg]
 by_cases h : (a.length : Int) = (b.length : Int)
 ·rw [if_neg (by simpa using h), equal_loop b a 0 (by omega), List.drop_zero]
  by_cases hab : a = b <;> simp [hab]
 ·rw [if_pos h]
  have : a ≠ b := fun hh => h (by rw [hh])
  simp [this]
theorem half_eq (i j : Nat) (h : i + j < 4000000) : wr .i64 (shw false .u64 (wr .u64 (wr .i64 ((i : Int) + (j : Int)))) 1) = (((i + j) / 2 : Nat) : Int) := by
 have e1 : wr .i64 ((i : Int) + (j : Int)) = (i : Int) + (j : Int) := wr_eq _ _ (by show (-9223372036854775808 : Int) <= _; omega) (by show _ <= (9223372036854775807 : Int); omega)
 have e2 : wr .u64 ((i : Int) + (j : Int)) = (i : Int) + (j : Int) := wr_eq _ _ (by show (0 : Int) <= _; omega) (by show _ <= (18446744073709551615 : Int); omega)
 have e3 : shw false .u64 ((i : Int) + (j : Int)) 1 = (((i + j) / 2 : Nat) : Int) := by
  unfold shw
  show Int.fdiv ((i : Int) + (j : Int)) 2 = _
  rw [Int.fdiv_eq_ediv_of_nonneg _ (by omega)]
  omega
 rw [e1, e2, e3]
 exact wr_eq _ _ (by show (-9223372036854775808 : Int) <= _; omega) (by show _ <= (9223372036854775807 : Int); omega)
end Go.Proofs
end
section
namespace Go.Proofs
open Go.Tm
set_option linter.unusedSimpArgs false
def stW (w : TWait) : TStamp := ⟨w.Time, w.Message.Id⟩
def ltS (a b : TStamp) : Prop := a.Time < b.Time \/ (a.Time = b.Time /\ a.Id < b.Id)
instance (a b : TStamp) : Decidable (ltS a b) := by unfold ltS; infer_instance
theorem zl6 {a b c : TStamp} (h : ltS a b) (k : ltS b c) : ltS a c := by unfold ltS at *; omega
theorem zjt (a : TStamp) : ¬ ltS a a := by unfold ltS; omega
theorem ltS_total {a b : TStamp} (h : a.Id ≠ b.Id) (k : ¬ ltS b a) : ltS a b := by unfold ltS at *; omega
theorem or2 (x y : Int) : zgl [x, y] = some (if x = 0 then y else x) := by
 rw [zgl, zcf]
 by_cases hx : x = 0
 ·rw [if_neg (by simpa using hx), zcf, if_pos hx]
  by_cases hy : y = 0
  ·rw [if_neg (by simpa using hy), zcf]; simp [hy]
  ·rw [if_pos hy]; rfl
 ·rw [if_pos hx, if_neg hx]; rfl
theorem cmp_eq (x y : Int) : zdm x y = some (if x < y then -1 else if x > y then 1 else 0) := by
 have e : ∀ z : Int, ze8 z = some false := fun z => by rw [ze8]; simp
 rw [zdm, e, e]
 simp only [Option.bind_some, Bool.false_eq_true, if_false]
 split
 ·rfl
 ·split <;> rfl
theorem less_eq (a b : TStamp) : zdi a b = some (decide (ltS a b)) := by
 rw [zdi, cmp_eq, cmp_eq]
 simp only [Option.bind_some, or2, Option.some.injEq, decide_eq_decide, ltS]
 by_cases h1 : a.Time < b.Time
 ·simp [h1]
 ·by_cases h2 : a.Time > b.Time
  ·simp [h1, h2]; omega
  ·have : a.Time = b.Time := by omega
   by_cases h3 : a.Id < b.Id
   ·simp [this, h3]
   ·by_cases h4 : a.Id > b.Id <;> simp [this, h3, h4]
theorem order_eq (a b : TWait) : zct a b = some (if ltS (stW a) (stW b) then -1 else if ltS (stW b) (stW a) then 1 else 0) := by
 simp only [zct, ze6, Option.bind_some, less_eq, decide_eq_true_eq]
 show (if ltS (stW a) (stW b) then _ else if ltS (stW b) (stW a) then _ else _) = _
 split
 ·rfl
 ·split <;> rfl
def minW : TWait -> List TWait -> TWait
 | m, [] => m
 | m, x :: l => minW (if ltS (stW x) (stW m) then x else m) l
theorem minW_mem : ∀ (l : List TWait) (m : TWait), minW m l = m \/ minW m l ∈ l := by
 intro l
 induction l with
 | nil => intro m; exact .inl rfl
 | cons x l ih =>
  intro m
  rw [minW]
  rcases ih (if ltS (stW x) (stW m) then x else m) with h | h
  ·rw [h]; split
   ·exact .inr (by simp)
   ·exact .inl rfl
  ·exact .inr (List.mem_cons_of_mem _ h)
theorem minW_le : ∀ (l : List TWait) (m : TWait), ¬ ltS (stW m) (stW (minW m l)) /\ ∀ x ∈ l, ¬ ltS (stW x) (stW (minW m l)) := by
 intro l
 induction l with
 | nil => intro m; exact ⟨zjt _, by simp⟩
 | cons x l ih =>
  intro m
  rw [minW]
  obtain ⟨h1, h2⟩ := ih (if ltS (stW x) (stW m) then x else m)
  have key : ¬ ltS (stW m) (stW (minW (if ltS (stW x) (stW m) then x else m) l)) /\ ¬ ltS (stW x) (stW (minW (if ltS (stW x) (stW m) then x else m) l)) := by
   by_cases h : ltS (stW x) (stW m)
   ·rw [if_pos h] at h1 ⊢
    exact ⟨fun k => h1 (zl6 h k), h1⟩
   ·rw [if_neg h] at h1 ⊢
    refine ⟨h1, fun k => ?_⟩
    have := @zl6
    unfold ltS at *; omega
  refine ⟨key.1, fun y hy => ?_⟩
  rcases List.mem_cons.1 hy with rfl | hy
  ·exact key.2
  ·exact h2 y hy
theorem min_loop (l : List TWait) (hl : l.length < 1000000) : ∀ (fu k : Nat) (m : TWait), l.length - k < fu -> k <= l.length ->
  zag l zct fu m.Message.Id m.Message.Groups m.Message.Topic m.Message.Key m.Message.Body m.Time m.Final (k : Int)
   = some (let r := minW m (l.drop k); (r.Message.Id, r.Message.Groups, r.Message.Topic, r.Message.Key, r.Message.Body, r.Time, r.Final)) := by
 intro fu
 induction fu with
 | zero => intro k m h; omega
 | succ fu ih =>
  intro k m h hk
  rw [zag]
  by_cases hlt : k < l.length
  ·have hd := List.drop_eq_getElem_cons hlt
   have hg : l.getD (k : Int).toNat default = l[k] := by simp [List.getD, List.getElem?_eq_getElem hlt]
   have hw : wr .i64 ((k : Int) + 1) = ((k + 1 : Nat) : Int) := wr_eq _ _ (by show (-9223372036854775808 : Int) <= _; omega) (by show _ <= (9223372036854775807 : Int); omega)
   rw [if_pos (by omega), if_pos (by omega), hg, order_eq, hd, minW]
   show Option.bind (Option.bind (some (if ltS (stW l[k]) (stW m) then (-1 : Int) else if ltS (stW m) (stW l[k]) then 1 else 0)) _) _ = _
   simp only [Option.bind_some]
   by_cases hc : ltS (stW l[k]) (stW m)
   ·simp only [hc, if_true]
    rw [if_pos (by decide), if_pos (by omega)]
    simp only [Option.bind_some]
    rw [hw, ih (k + 1) l[k] (by omega) (by omega)]
   ·simp only [hc, if_false]
    rw [if_neg (by split <;> decide)]
    simp only [Option.bind_some]
    rw [hw, ih (k + 1) m (by omega) (by omega)]
  ·rw [if_neg (by omega), List.drop_of_length_le (by omega), minW]
theorem min_eq (y : TWait) (l : List TWait) (hl : l.length < 900000) : zbi (y :: l) zct = some (minW y l) := by
 rw [zbi, if_neg (by simp; omega), if_pos (by simp)]
 have := min_loop (y :: l) (by simp; omega) ((y :: l).length + 1) 1 y (by simp; omega) (by simp)
 rw [show ((1 : Nat) : Int) = 1 from rfl] at this
 have e : (y :: l).getD 0 default = y := rfl
 rw [e, this]
 rfl
theorem minw_loop (l : List TWait) (f : TWait -> TWait -> Option Int) : ∀ (fu : Nat) (a : Int) (b : List Int) (c : Int) (d e : List UInt8) (g : Int) (h : Bool) (i : Int), zap l f fu a b c d e g h i = zag l f fu a b c d e g h i := by
 intro fu
 induction fu with
 | zero => intros; rfl
 | succ fu ih =>
  intros
  rw [zap, zag]
  simp only [ih]
theorem minw_eq (y : TWait) (l : List TWait) (hl : l.length < 900000) : zbw (y :: l) zct = some (minW y l) := by
 rw [<- min_eq y l hl, zbw, zbi]
 simp only [minw_loop]
def IdOk (n : Int) : Prop := 0 <= n /\ n <= 6291455
def IdsUp (l : List TWait) : Prop := l.Pairwise fun a b => a.Message.Id < b.Message.Id
theorem find1 (w : TWait) (id : Int) (h1 : IdOk w.Message.Id) (h2 : IdOk id) : zc8 w id = some (w.Message.Id - id) := by
 rw [zc8]
 unfold IdOk at *
 rw [wr_eq _ _ (by show (-9223372036854775808 : Int) <= _; omega) (by show _ <= (9223372036854775807 : Int); omega)]
def plc (id : Int) : List TWait -> Nat
 | [] => 0
 | w :: l => if w.Message.Id < id then plc id l + 1 else 0
theorem plc_le (id : Int) : ∀ l, plc id l <= l.length := by
 intro l
 induction l with
 | nil => simp [plc]
 | cons w l ih => rw [plc]; split <;> simp <;> omega
theorem plc_lt (id : Int) : ∀ (l : List TWait), IdsUp l -> ∀ (x : Nat) (h : x < l.length), (l[x].Message.Id < id ↔ x < plc id l) := by
 intro l
 induction l with
 | nil => intro _ x h; simp at h
 | cons w l ih =>
  intro hu x h
  have hu' := List.pairwise_cons.1 hu
  rw [plc]
  cases x with
  | zero => simp only [List.getElem_cons_zero]; split <;> simp [*]
  | succ x =>
   simp only [List.getElem_cons_succ]
   have hx : x < l.length := by simpa using h
   have := ih hu'.2 x hx
   split
   ·rw [this]; omega
   ·rename_i hw
    have := hu'.1 l[x] (List.getElem_mem hx)
    constructor
    ·intro _; omega
    ·intro h; omega
theorem bs_loop (l : List TWait) (id : Int) (hl : l.length < 1000000) (hu : IdsUp l) (hi : ∀ w ∈ l, IdOk w.Message.Id) (h2 : IdOk id) : ∀ (fu i j : Nat), j - i < fu -> i <= plc id l -> plc id l <= j -> j <= l.length ->
  za5 l id zc8 fu (i : Int) (j : Int) = some ((plc id l : Nat) : Int) := by
 intro fu
 induction fu with
 | zero => intro i j h; omega
 | succ fu ih =>
  intro i j h h1 h3 h4
  rw [za5]
  by_cases hij : i < j
  ·have hm : (i + j) / 2 < l.length := by omega
   have hg : l.getD (((i + j) / 2 : Nat) : Int).toNat default = l[(i + j) / 2] := by rw [Int.toNat_natCast]; simp [List.getD, List.getElem?_eq_getElem hm]
   have e : wr .i64 ((((i + j) / 2 : Nat) : Int) + 1) = (((i + j) / 2 + 1 : Nat) : Int) := wr_eq _ _ (by show (-9223372036854775808 : Int) <= _; omega) (by show _ <= (9223372036854775807 : Int); omega)
   rw [if_pos (by omega), half_eq i j (by omega), if_pos ⟨by omega, by omega⟩, hg, find1 _ _ (hi _ (List.getElem_mem hm)) h2, e]
   simp only [Option.bind_some]
   have hp := plc_lt id l hu _ hm
   by_cases hc : l[(i + j) / 2].Message.Id < id
   ·rw [if_pos (by omega)]
    exact ih _ _ (by omega) (by have := hp.1 hc; omega) h3 h4
   ·rw [if_neg (by omega)]
    exact ih _ _ (by omega) h1 (by have : ¬ _ := fun k => hc (hp.2 k); omega) (by omega)
  ·rw [if_neg (by omega)]
   have : i = plc id l := by omega
   rw [this]
theorem plc_at (id : Int) (l : List TWait) (hu : IdsUp l) : (∃ w ∈ l, w.Message.Id = id) ↔ ∃ h : plc id l < l.length, l[plc id l].Message.Id = id := by
 constructor
 ·rintro ⟨w, hw, rfl⟩
  obtain ⟨x, hx, rfl⟩ := List.getElem_of_mem hw
  have h1 : ¬ x < plc l[x].Message.Id l := fun k => by have := (plc_lt _ l hu x hx).2 k; omega
  have h2 : plc l[x].Message.Id l <= x := by omega
  have h3 : plc l[x].Message.Id l < l.length := by omega
  refine ⟨h3, ?_⟩
  have h4 : ¬ l[plc l[x].Message.Id l].Message.Id < l[x].Message.Id := fun k => by have := (plc_lt _ l hu _ h3).1 k; omega
  rcases Nat.lt_or_eq_of_le h2 with h5 | h5
  ·have := List.pairwise_iff_getElem.1 hu _ _ h3 hx h5
   omega
  ·simp only [h5]
 ·rintro ⟨h, e⟩
  exact ⟨_, List.getElem_mem h, e⟩
theorem find_eq (c : Tskeen_clock) (id : Int) (hl : c.Skeen.Waits.length < 1000000) (hu : IdsUp c.Skeen.Waits) (hi : ∀ w ∈ c.Skeen.Waits, IdOk w.Message.Id) (h2 : IdOk id) :
  zcu c id = some (((plc id c.Skeen.Waits : Nat) : Int), decide (∃ w ∈ c.Skeen.Waits, w.Message.Id = id)) := by
 obtain ⟨⟨ck, l, dn⟩⟩ := c
 simp only at hl hu hi ⊢
 have hb := bs_loop l id hl hu hi h2 (l.length + 1) 0 l.length (by omega) (by omega) (plc_le id l) (by omega)
 rw [zcu, zbj]
 simp only
 have e0 : ((0 : Nat) : Int) = 0 := rfl
 rw [e0] at hb
 rw [hb]
 simp only [Option.bind_some]
 rw [if_pos (by intro h; omega)]
 have hp := plc_at id l hu
 by_cases hc : plc id l < l.length
 ·have hg : l.getD ((plc id l : Nat) : Int).toNat default = l[plc id l] := by rw [Int.toNat_natCast]; simp [List.getD, List.getElem?_eq_getElem hc]
  rw [if_pos (by omega), hg, find1 _ _ (hi _ (List.getElem_mem hc)) h2]
  simp only [Option.bind_some, Option.some.injEq, Prod.mk.injEq, true_and]
  rw [decide_eq_true (by omega : ((plc id l : Nat) : Int) < (l.length : Int)), Bool.true_and]
  by_cases hx : ∃ w ∈ l, w.Message.Id = id
  ·obtain ⟨h3, h4⟩ := hp.1 hx
   simp only [hx, decide_true]
   simp; omega
  ·simp only [hx, decide_false]
   have : ¬ l[plc id l].Message.Id = id := fun k => hx (hp.2 ⟨hc, k⟩)
   simp; omega
 ·rw [if_neg (by omega)]
  have : ¬ ∃ w ∈ l, w.Message.Id = id := fun k => hc (hp.1 k).1
  simp only [Option.bind_some, this, decide_false]
  rw [decide_eq_false (by omega), Bool.false_and]
theorem ixS_loop (f : TStamp -> Option Bool) (g : TStamp -> Bool) (hf : ∀ x, f x = some (g x)) (l : List TStamp) : ∀ n : Nat, (l.any g = true -> ∃ k : Nat, zaf f l n = some (.inl (k : Int))) /\ (l.any g = false -> zaf f l n = some (.inr ())) := by
 induction l with
 | nil => intro n; exact ⟨(fun h => by cases h), fun _ => rfl⟩
 | cons y l ih =>
  intro n
  rw [zaf, hf, List.any_cons]
  cases hg : g y with
  | true => exact ⟨fun _ => ⟨n, by simp⟩, fun h => by cases h⟩
  | false => simpa using ih (n + 1)
theorem done_eq (c : Tskeen_clock) (id : Int) : zdw c id = some (c.Skeen.Done.any fun x => x.Id == id) := by
 rw [zdw, zbx, zcb]
 have hf : ∀ x : TStamp, (fun x0 => zdd x0 id) x = some (x.Id == id) := fun x => rfl
 cases h : c.Skeen.Done.any fun x => x.Id == id with
 | true => obtain ⟨k, hk⟩ := (ixS_loop _ _ hf c.Skeen.Done 0).1 h; rw [hk]; simp
 | false => rw [(ixS_loop _ _ hf c.Skeen.Done 0).2 h]; simp
end Go.Proofs
end
section
namespace Go.Proofs
open Go.Tm
set_option linter.unusedSimpArgs false
theorem in_eq (a b c : Int) : zce a b c = some (decide (b <= a /\ a <= c)) := by
 rw [zce]; by_cases h : b <= a <;> by_cases k : a <= c <;> simp [h, k]
instance (n : Int) : Decidable (IdOk n) := by unfold IdOk; infer_instance
theorem cid_eq (a : Int) : zeu a = some (decide (IdOk a)) := by
 rw [zeu, in_eq, Option.bind_some]; rfl
def MsgOk (m : TMessage) : Prop := zar m = some 0
theorem msg_loop (m : TMessage) : ∀ (l : List Int) (n : Nat) (b : Bool), ∃ r, zab m l n b = some r := by
 intro l
 induction l with
 | nil => intro n b; exact ⟨b, rfl⟩
 | cons y l ih =>
  intro n b
  rw [zab, in_eq]
  cases b with
  | true => simp only [if_true, Option.bind_some]; exact ih _ _
  | false => simp only [Bool.false_eq_true, if_false, Option.bind_some]; exact ih _ _
theorem msg_tot (m : TMessage) : (∃ e, zar m = some e) /\ (zar m = some 0 -> IdOk m.Id) := by
 obtain ⟨b, hb⟩ := msg_loop m m.Groups 0 ((decide ((m.Groups.length : Int) >= 1)) && (decide ((m.Groups.length : Int) <= 4)))
 have key : zar m = some (if ((((¬ (b = true)) \/ (¬ (decide (IdOk m.Id) = true))) \/ (¬ (decide (0 <= m.Topic /\ m.Topic <= 3) = true))) \/ ((m.Key.length : Int) > 16)) \/ ((m.Body.length : Int) > 64) then 120 else 0) := by
  rw [zar, hb]
  simp only [Option.bind_some, cid_eq, in_eq]
  cases b with
  | true =>
   simp only [not_true_eq_false, not_false_eq_true, if_true, Option.bind_some, false_or]
   by_cases hi : IdOk m.Id
   ·simp only [hi, decide_true, not_true_eq_false, not_false_eq_true, if_true, Option.bind_some, false_or]
    split <;> rfl
   ·simp only [hi, decide_false, Bool.false_eq_true, not_false_eq_true, not_true_eq_false, if_false, Option.bind_some, true_or, if_true]
  | false => simp
 refine ⟨⟨_, key⟩, fun h => ?_⟩
 rw [key] at h
 by_cases hi : IdOk m.Id
 ·exact hi
 ·simp [hi] at h
theorem MsgOk.id {m : TMessage} (h : MsgOk m) : IdOk m.Id := (msg_tot m).2 h
def zgw (x : TStamp) : Prop := 0 <= x.Time /\ x.Time <= 1073741824 /\ 0 <= x.Id /\ x.Id < 6291456
instance (x : TStamp) : Decidable (zgw x) := by unfold zgw; infer_instance
theorem stc_eq (x : TStamp) : zfp x = some (if zgw x then 0 else 8) := by
 rw [zfp]
 by_cases h : zgw x
 ·rw [if_pos h, if_neg (by unfold zgw at h; omega)]
 ·rw [if_neg h, if_pos (by unfold zgw at h; omega)]
theorem mget_mput (k i v : Int) : ∀ m : List (Int × Int), mget k (mput i v m) = if k = i then some v else mget k m := by
 intro m
 induction m with
 | nil => simp [mput, mget]
 | cons x m ih =>
  rw [mput]
  by_cases h : i = x.1
  ·rw [if_pos h]; simp only [mget]
   by_cases hk : k = i
   ·simp [hk]
   ·simp [hk, show k ≠ x.1 from fun e => hk (e.trans h.symm)]
  ·rw [if_neg h]; simp only [mget]
   by_cases hx : k = x.1
   ·simp [hx, show ¬ x.1 = i from fun e => h e.symm]
   ·rw [if_neg hx, ih, if_neg hx]
def DOk (c : Int) (D : List TStamp) : Prop := (∀ x ∈ D, zgw x /\ 1 <= x.Time /\ x.Time <= c) /\ D.Pairwise ltS /\ (D.map TStamp.Id).Nodup
theorem DOk.pre {c : Int} {D E : List TStamp} (h : DOk c (D ++ E)) : DOk c D :=
 ⟨fun x hx => h.1 x (List.mem_append_left _ hx), (List.pairwise_append.1 h.2.1).1, by have := h.2.2; rw [List.map_append] at this; exact (List.nodup_append.1 this).1⟩
theorem ltS_last {D : List TStamp} (h : D.Pairwise ltS) {p : TStamp} (hp : D.getLast? = some p) : ∀ x ∈ D, x = p \/ ltS x p := by
 obtain ⟨E, rfl⟩ := List.getLast?_eq_some_iff.1 hp
 intro x hx
 rcases List.mem_append.1 hx with hx | hx
 ·exact .inr ((List.pairwise_append.1 h).2.2 x hx p (by simp))
 ·simp at hx; exact .inl hx
theorem DOk.snoc {c : Int} {D : List TStamp} (h : DOk c D) (y : TStamp) : DOk c (D ++ [y]) ↔ (zgw y /\ 1 <= y.Time /\ y.Time <= c) /\ (∀ p, D.getLast? = some p -> ltS p y) /\ y.Id ∉ D.map TStamp.Id := by
 constructor
 ·intro k
  refine ⟨k.1 y (by simp), fun p hp => ?_, fun hm => ?_⟩
  ·exact (List.pairwise_append.1 k.2.1).2.2 p (List.mem_of_getLast? hp) y (by simp)
  ·have := k.2.2; rw [List.map_append] at this
   exact (List.nodup_append.1 this).2.2 _ hm _ (by simp) rfl
 ·rintro ⟨h1, h2, h3⟩
  refine ⟨fun x hx => ?_, ?_, ?_⟩
  ·rcases List.mem_append.1 hx with hx | hx
   ·exact h.1 x hx
   ·simp at hx; subst hx; exact h1
  ·rw [List.pairwise_append]
   refine ⟨h.2.1, by simp, fun x hx z hz => ?_⟩
   simp at hz; subst hz
   cases hl : D.getLast? with
   | none => rw [List.getLast?_eq_none_iff] at hl; subst hl; simp at hx
   | some p =>
    rcases ltS_last h.2.1 hl x hx with rfl | hh
    ·exact h2 _ hl
    ·exact zl6 hh (h2 _ hl)
  ·rw [List.map_append, List.nodup_append]
   refine ⟨h.2.2, by simp, fun a ha b hb e => ?_⟩
   simp at hb; subst hb; subst e; exact h3 ha
def Mp (D : List TStamp) (m : List (Int × Int)) : Prop := ∀ k, ((mget k m).getD 0 > 0 ↔ k ∈ D.map TStamp.Id)
theorem Mp.snoc {D : List TStamp} {m : List (Int × Int)} (h : Mp D m) (y : TStamp) : Mp (D ++ [y]) (mput y.Id 1 m) := by
 intro k
 rw [mget_mput]
 by_cases e : k = y.Id
 ·simp [e]
 ·rw [if_neg e, h k]; simp [e]
theorem ck1 (s : TSkeen) : ∀ (l pre : List TStamp) (m : List (Int × Int)) (n3 n4 : Int), DOk s.Clock pre -> Mp pre m -> (∀ x, pre.getLast? = some x -> x = ⟨n3, n4⟩) ->
  (DOk s.Clock (pre ++ l) -> ∃ m' a b, zb9 s l pre.length m n3 n4 = some (.inr (m', a, b)) /\ Mp (pre ++ l) m' /\ ∀ x, (pre ++ l).getLast? = some x -> x = ⟨a, b⟩) /\
  (¬ DOk s.Clock (pre ++ l) -> zb9 s l pre.length m n3 n4 = some (.inl 8)) := by
 intro l
 induction l with
 | nil =>
  intro pre m n3 n4 h1 h2 h3
  rw [List.append_nil]
  exact ⟨fun _ => ⟨m, n3, n4, rfl, h2, h3⟩, fun h => absurd h1 h⟩
 | cons y l ih =>
  intro pre m n3 n4 h1 h2 h3
  have ea : pre ++ y :: l = (pre ++ [y]) ++ l := by simp
  have hs := h1.snoc y
  have el : (pre ++ [y]).length = pre.length + 1 := by simp
  have hlast : ∀ x, (pre ++ [y]).getLast? = some x -> x = ⟨y.Time, y.Id⟩ := by
   intro x hx; simp at hx; exact hx.symm
  -- the round's test
  have key : ∀ k : Option (Int ⊕ (List (Int × Int) × Int × Int)), (DOk s.Clock (pre ++ [y]) -> k = zb9 s l (pre.length + 1) (mput y.Id 1 m) y.Time y.Id) -> (¬ DOk s.Clock (pre ++ [y]) -> k = some (.inl 8)) -> zb9 s (y :: l) pre.length m n3 n4 = k := by
   intro k k1 k2
   rw [zb9, stc_eq]
   simp only [Option.bind_some, less_eq]
   by_cases c1 : zgw y /\ 1 <= y.Time /\ y.Time <= s.Clock
   ·have e1 : ¬ ((¬ (if zgw y then (0 : Int) else 8) = 0 \/ y.Time < 1) \/ y.Time > s.Clock) := by
     rw [if_pos c1.1]; omega
    by_cases c2 : pre.length = 0
    ·have hp : pre = [] := List.length_eq_zero_iff.1 c2
     have hl : ∀ p, pre.getLast? = some p -> ltS p y := by subst hp; simp
     rw [if_neg (by rw [c2]; simp)]
     simp only [Option.bind_some]
     by_cases c3 : y.Id ∈ pre.map TStamp.Id
     ·rw [if_pos (.inr ((h2 _).2 c3)), k2 (fun h => (hs.1 h).2.2 c3)]
     ·rw [if_neg, k1 (hs.2 ⟨c1, hl, c3⟩)]
      rintro ((hh | hh) | hh)
      ·exact e1 hh
      ·omega
      ·exact c3 ((h2 _).1 hh)
    ·obtain ⟨p, hp⟩ : ∃ p, pre.getLast? = some p := by
      cases hq : pre.getLast? with
      | none => rw [List.getLast?_eq_none_iff] at hq; subst hq; simp at c2
      | some p => exact ⟨p, rfl⟩
     have ep := h3 p hp
     rw [if_pos ⟨e1, by omega⟩]
     simp only [Option.bind_some, decide_eq_true_eq]
     by_cases c4 : ltS ⟨n3, n4⟩ y
     ·by_cases c3 : y.Id ∈ pre.map TStamp.Id
      ·rw [if_pos (.inr ((h2 _).2 c3)), k2 (fun h => (hs.1 h).2.2 c3)]
      ·rw [if_neg, k1 (hs.2 ⟨c1, fun q hq => by rw [hp] at hq; cases hq; rw [ep]; exact c4, c3⟩)]
       rintro ((hh | hh) | hh)
       ·exact e1 hh
       ·exact hh.2 c4
       ·exact c3 ((h2 _).1 hh)
     ·rw [if_pos (.inl (.inr ⟨by omega, c4⟩)), k2 (fun h => c4 (by have := (hs.1 h).2.1 p hp; rwa [ep] at this))]
   ·have e1 : ((¬ (if zgw y then (0 : Int) else 8) = 0 \/ y.Time < 1) \/ y.Time > s.Clock) := by
     by_cases c0 : zgw y
     ·rw [if_pos c0]; have := c1; simp only [c0, true_and] at this; omega
     ·rw [if_neg c0]; exact .inl (.inl (by decide))
    rw [if_neg (by rintro ⟨hh, _⟩; exact hh e1)]
    simp only [Option.bind_some]
    rw [if_pos (.inl (.inl e1)), k2 (fun h => c1 (hs.1 h).1)]
  rw [ea]
  by_cases hd : DOk s.Clock (pre ++ [y])
  ·have := ih (pre ++ [y]) (mput y.Id 1 m) y.Time y.Id hd (h2.snoc y) hlast
   rw [el] at this
   rw [key _ (fun _ => rfl) (fun h => absurd hd h)]
   exact this
  ·refine ⟨fun h => absurd h.pre hd, fun _ => key _ (fun h => absurd h hd) (fun _ => rfl)⟩
def W1 (c : Int) (D : List TStamp) (w : TWait) : Prop := MsgOk w.Message /\ 1 <= w.Time /\ w.Time <= c /\ (∀ x ∈ D, x.Id ≠ w.Message.Id) /\ ∀ x, D.getLast? = some x -> ltS x (stW w)
def WOk (c : Int) (D : List TStamp) (W : List TWait) : Prop := (∀ w ∈ W, W1 c D w) /\ IdsUp W
theorem WOk.pre {c : Int} {D : List TStamp} {V W : List TWait} (h : WOk c D (V ++ W)) : WOk c D V := ⟨fun w hw => h.1 w (List.mem_append_left _ hw), (List.pairwise_append.1 h.2).1⟩
theorem ids_last {W : List TWait} (h : IdsUp W) {p : TWait} (hp : W.getLast? = some p) : ∀ x ∈ W, x = p \/ x.Message.Id < p.Message.Id := by
 obtain ⟨E, rfl⟩ := List.getLast?_eq_some_iff.1 hp
 intro x hx
 rcases List.mem_append.1 hx with hx | hx
 ·exact .inr ((List.pairwise_append.1 h).2.2 x hx p (by simp))
 ·simp at hx; exact .inl hx
theorem WOk.snoc {c : Int} {D : List TStamp} {W : List TWait} (h : WOk c D W) (y : TWait) : WOk c D (W ++ [y]) ↔ W1 c D y /\ ∀ p, W.getLast? = some p -> p.Message.Id < y.Message.Id := by
 constructor
 ·intro k
  exact ⟨k.1 y (by simp), fun p hp => (List.pairwise_append.1 k.2).2.2 p (List.mem_of_getLast? hp) y (by simp)⟩
 ·rintro ⟨h1, h2⟩
  refine ⟨fun x hx => ?_, ?_⟩
  ·rcases List.mem_append.1 hx with hx | hx
   ·exact h.1 x hx
   ·simp at hx; subst hx; exact h1
  ·unfold IdsUp
   rw [List.pairwise_append]
   refine ⟨h.2, by simp, fun x hx z hz => ?_⟩
   simp at hz; subst hz
   cases hl : W.getLast? with
   | none => rw [List.getLast?_eq_none_iff] at hl; subst hl; simp at hx
   | some p =>
    rcases ids_last h.2 hl x hx with rfl | hh
    ·exact h2 _ hl
    ·have := h2 _ hl; omega
theorem ck2 (s : TSkeen) (m : List (Int × Int)) (a b : Int) (hm : Mp s.Done m) (hab : ∀ x, s.Done.getLast? = some x -> x = ⟨a, b⟩) : ∀ (l pre : List TWait), s.Waits = pre ++ l -> WOk s.Clock s.Done pre ->
  (WOk s.Clock s.Done (pre ++ l) -> zb8 s m a b l pre.length = some (.inr ())) /\ (¬ WOk s.Clock s.Done (pre ++ l) -> zb8 s m a b l pre.length = some (.inl 8)) := by
 intro l
 induction l with
 | nil =>
  intro pre _ h1
  rw [List.append_nil]
  exact ⟨fun _ => rfl, fun h => absurd h1 h⟩
 | cons y l ih =>
  intro pre hw h1
  have ea : pre ++ y :: l = (pre ++ [y]) ++ l := by simp
  have hs := h1.snoc y
  have el : (pre ++ [y]).length = pre.length + 1 := by simp
  have hprev : ∀ p, pre.getLast? = some p -> s.Waits.getD (pre.length - 1) default = p := by
   intro p hp
   obtain ⟨E, rfl⟩ := List.getLast?_eq_some_iff.1 hp
   rw [hw]; simp [List.getD]
  obtain ⟨⟨e, he⟩, _⟩ := msg_tot y.Message
  have hmo : MsgOk y.Message ↔ e = 0 := by unfold MsgOk; rw [he]; simp
  have key : ∀ k : Option (Int ⊕ Unit), (WOk s.Clock s.Done (pre ++ [y]) -> k = zb8 s m a b l (pre.length + 1)) -> (¬ WOk s.Clock s.Done (pre ++ [y]) -> k = some (.inl 8)) -> zb8 s m a b (y :: l) pre.length = k := by
   intro k k1 k2
   rw [zb8, he]
   simp only [Option.bind_some, ze6, less_eq]
   let T1 : Prop := ((((¬ (e = 0) \/ y.Time < 1) \/ y.Time > s.Clock) \/ (((pre.length : Int) > 0) /\ y.Message.Id <= (s.Waits.getD (pre.length - 1) default).Message.Id)) \/ ((mget y.Message.Id m).getD 0 > 0))
   have t1 : ¬ T1 ↔ (MsgOk y.Message /\ 1 <= y.Time /\ y.Time <= s.Clock /\ (∀ x ∈ s.Done, x.Id ≠ y.Message.Id)) /\ (∀ p, pre.getLast? = some p -> p.Message.Id < y.Message.Id) := by
    have h3 : ((mget y.Message.Id m).getD 0 > 0) ↔ ¬ ∀ x ∈ s.Done, x.Id ≠ y.Message.Id := by
     rw [hm]; simp
    have h4 : (((pre.length : Int) > 0) /\ y.Message.Id <= (s.Waits.getD (pre.length - 1) default).Message.Id) ↔ ¬ ∀ p, pre.getLast? = some p -> p.Message.Id < y.Message.Id := by
     cases hq : pre.getLast? with
     | none => rw [List.getLast?_eq_none_iff] at hq; subst hq; simp
     | some p =>
      rw [hprev p hq]
      have : pre.length > 0 := by
       rcases Nat.eq_zero_or_pos pre.length with h0 | h0
       ·rw [List.length_eq_zero_iff.1 h0] at hq; simp at hq
       ·exact h0
      constructor
      ·rintro ⟨_, h5⟩ h6; have := h6 p rfl; omega
      ·intro h5
       refine ⟨by omega, ?_⟩
       apply Decidable.byContradiction
       intro h6
       exact h5 fun q hq' => by cases hq'; omega
    show ¬ ((((¬ (e = 0) \/ y.Time < 1) \/ y.Time > s.Clock) \/ _) \/ _) ↔ _
    rw [h3, h4, hmo]
    constructor
    ·intro h
     refine ⟨⟨?_, ?_, ?_, ?_⟩, ?_⟩
     ·apply Decidable.byContradiction; intro q; exact h (.inl (.inl (.inl (.inl q))))
     ·apply Decidable.byContradiction; intro q; exact h (.inl (.inl (.inl (.inr (by omega)))))
     ·apply Decidable.byContradiction; intro q; exact h (.inl (.inl (.inr (by omega))))
     ·apply Classical.byContradiction; intro q; exact h (.inr q)
     ·apply Classical.byContradiction; intro q; exact h (.inl (.inr q))
    ·rintro ⟨⟨q1, q2, q3, q4⟩, q5⟩ ((((q | q) | q) | q) | q)
     ·exact q q1
     ·omega
     ·omega
     ·exact q q5
     ·exact q q4
   by_cases c1 : T1
   ·have c1' : ¬ (¬ T1 /\ (s.Done.length : Int) > 0) := fun h => h.1 c1
    show Option.bind (if ¬ T1 /\ (s.Done.length : Int) > 0 then _ else _) _ = k
    rw [if_neg c1']
    simp only [Option.bind_some]
    show Option.bind (if ¬ T1 /\ (s.Done.length : Int) > 0 then _ else _) _ = k
    rw [if_neg c1']
    simp only [Option.bind_some]
    rw [if_pos (.inl c1), k2]
    intro h
    have := hs.1 h
    exact t1.2 ⟨⟨this.1.1, this.1.2.1, this.1.2.2.1, this.1.2.2.2.1⟩, this.2⟩ c1
   ·have q := t1.1 c1
    by_cases c2 : s.Done = []
    ·have c1' : ¬ (¬ T1 /\ (s.Done.length : Int) > 0) := by rw [c2]; simp
     show Option.bind (if ¬ T1 /\ (s.Done.length : Int) > 0 then _ else _) _ = k
     rw [if_neg c1']
     simp only [Option.bind_some]
     show Option.bind (if ¬ T1 /\ (s.Done.length : Int) > 0 then _ else _) _ = k
     rw [if_neg c1']
     simp only [Option.bind_some]
     rw [if_neg, k1 (hs.2 ⟨⟨q.1.1, q.1.2.1, q.1.2.2.1, q.1.2.2.2, by rw [c2]; simp⟩, q.2⟩)]
     rintro (h | h)
     ·exact c1 h
     ·rw [c2] at h; simp at h
    ·obtain ⟨p, hp⟩ : ∃ p, s.Done.getLast? = some p := by
      cases hq : s.Done.getLast? with
      | none => rw [List.getLast?_eq_none_iff] at hq; exact absurd hq c2
      | some p => exact ⟨p, rfl⟩
     have hpos : (s.Done.length : Int) > 0 := by
      have := List.length_pos_iff.2 c2; omega
     have ep := hab p hp
     show Option.bind (if ¬ T1 /\ (s.Done.length : Int) > 0 then _ else _) _ = k
     rw [if_pos ⟨c1, hpos⟩]
     simp only [Option.bind_some]
     show Option.bind (if ¬ T1 /\ (s.Done.length : Int) > 0 then _ else _) _ = k
     rw [if_pos ⟨c1, hpos⟩]
     simp only [Option.bind_some, decide_eq_true_eq]
     show (if T1 \/ ((s.Done.length : Int) > 0 /\ ¬ ltS ⟨a, b⟩ (stW y)) then _ else _) = k
     by_cases c3 : ltS ⟨a, b⟩ (stW y)
     ·rw [if_neg, k1 (hs.2 ⟨⟨q.1.1, q.1.2.1, q.1.2.2.1, q.1.2.2.2, fun x hx => by rw [hab x hx]; exact c3⟩, q.2⟩)]
      rintro (h | h)
      ·exact c1 h
      ·exact h.2 c3
     ·rw [if_pos (.inr ⟨hpos, c3⟩), k2]
      intro h
      exact c3 (by have := (hs.1 h).1.2.2.2.2 p hp; rwa [ep] at this)
  rw [ea]
  by_cases hd : WOk s.Clock s.Done (pre ++ [y])
  ·have := ih (pre ++ [y]) (by rw [hw, ea]) hd
   rw [el] at this
   rw [key _ (fun _ => rfl) (fun h => absurd hd h)]
   exact this
  ·exact ⟨fun h => absurd h.pre hd, fun _ => key _ (fun h => absurd h hd) (fun _ => rfl)⟩
structure V (s : TSkeen) : Prop where
 c0 : 0 <= s.Clock
 c1 : s.Clock <= 1073741824
 lw : s.Waits.length <= 200
 ld : s.Done.length <= 200
 d : DOk s.Clock s.Done
 w : WOk s.Clock s.Done s.Waits
 m : ∀ y l, s.Waits = y :: l -> (minW y l).Final = false
theorem sk_check (s : TSkeen) : ∃ e, zew s = some e /\ (e = 0 ↔ V s) := by
 rw [zew]
 by_cases h0 : ((s.Clock < 0 \/ s.Clock > 1073741824) \/ (s.Waits.length : Int) > 200) \/ (s.Done.length : Int) > 200
 ·rw [if_pos h0]
  refine ⟨8, rfl, (by intro h; cases h), fun h => ?_⟩
  have := h.c0; have := h.c1; have := h.lw; have := h.ld; omega
 rw [if_neg h0]
 have d0 : DOk s.Clock [] := ⟨by simp, by simp, by simp⟩
 have hc := ck1 s s.Done [] [] 0 0 d0 (by intro k; simp [mget]) (by simp)
 rw [List.nil_append] at hc
 by_cases hd : DOk s.Clock s.Done
 ·obtain ⟨m, a, b, h1, h2, h3⟩ := hc.1 hd
  have h1 : zb9 s s.Done 0 [] 0 0 = _ := h1
  rw [h1]
  simp only [Option.bind_some]
  have w0 : WOk s.Clock s.Done [] := ⟨by simp, by simp [IdsUp]⟩
  have hc2 := ck2 s m a b h2 h3 s.Waits [] rfl w0
  rw [List.nil_append] at hc2
  by_cases hw : WOk s.Clock s.Done s.Waits
  ·have h4 : zb8 s m a b s.Waits 0 = _ := hc2.1 hw
   rw [h4]
   simp only [Option.bind_some]
   cases hl : s.Waits with
   | nil =>
    refine ⟨0, by simp, fun _ => ⟨by omega, by omega, by omega, by omega, hd, hw, by rw [hl]; simp⟩, fun _ => rfl⟩
   | cons y l =>
    rw [if_pos (by simp only [List.length_cons]; omega), min_eq y l (by rw [hl] at h0; simp at h0; omega)]
    simp only [Option.bind_some]
    by_cases hf : (minW y l).Final = true
    ·rw [if_pos ⟨by simp only [List.length_cons]; omega, hf⟩]
     refine ⟨8, rfl, (by intro h; cases h), fun h => ?_⟩
     have := h.m y l hl
     rw [hf] at this; cases this
    ·rw [if_neg (fun h => hf h.2)]
     refine ⟨0, rfl, fun _ => ⟨by omega, by omega, by omega, by omega, hd, hw, fun y' l' h => ?_⟩, fun _ => rfl⟩
     rw [hl] at h; cases h
     simpa using hf
  ·have h4 : zb8 s m a b s.Waits 0 = _ := hc2.2 hw
   rw [h4]
   simp only [Option.bind_some]
   exact ⟨8, rfl, (by intro h; cases h), fun h => absurd h.w hw⟩
 ·have h1 : zb9 s s.Done 0 [] 0 0 = _ := hc.2 hd
  rw [h1]
  simp only [Option.bind_some]
  exact ⟨8, rfl, (by intro h; cases h), fun h => absurd h.d hd⟩
end Go.Proofs
end
section
namespace Go.Proofs
open Go.Tm
set_option linter.unusedSimpArgs false
theorem znr (m : TMessage) : ∀ (l : List Int) (n : Nat), zab m l n false = some false := by
 intro l
 induction l with
 | nil => intro n; rfl
 | cons y l ih => intro n; rw [zab]; simpa using ih (n + 1)
theorem MsgOk.groups {m : TMessage} (h : MsgOk m) : m.Groups.length <= 4 := by
 apply Decidable.byContradiction
 intro hc
 unfold MsgOk at h
 have e : ((decide ((m.Groups.length : Int) >= 1)) && (decide ((m.Groups.length : Int) <= 4))) = false := by
  rw [Bool.and_eq_false_iff]; right; simp; omega
 rw [zar, e, znr] at h
 simp [cid_eq, in_eq] at h
theorem sm_eq (a b : TMessage) : zbm a b = some (decide (a = b)) := by
 rw [zbm, equal_eq]
 obtain ⟨a1, a2, a3, a4, a5⟩ := a
 obtain ⟨b1, b2, b3, b4, b5⟩ := b
 by_cases h : a1 = b1
 ·by_cases h2 : a2 = b2 <;> by_cases h3 : a3 = b3 <;> by_cases h4 : a4 = b4 <;> by_cases h5 : a5 = b5 <;> simp [h, h2, h3, h4, h5]
 ·simp [h]
theorem cs_eq (a b : TCommand) : zfa a b = some (decide (a = b)) := by
 rw [zfa, sm_eq, equal_eq]
 obtain ⟨a1, a2, a3, a4, a5, a6, a7, a8⟩ := a
 obtain ⟨b1, b2, b3, b4, b5, b6, b7, b8⟩ := b
 by_cases h : a1 = b1
 ·by_cases h2 : a2 = b2
  ·by_cases h3 : a3 = b3
   ·by_cases h4 : a4 = b4
    ·by_cases h5 : a5 = b5 <;> by_cases h6 : a6 = b6 <;> by_cases h7 : a7 = b7 <;> by_cases h8 : a8 = b8 <;> simp [h, h2, h3, h4, h5, h6, h7, h8]
    ·simp [h, h2, h3, h4]
   ·simp [h, h2, h3]
  ·simp [h, h2]
 ·simp [h]
theorem plain_tot (c : TCommand) : ∃ p ok, zet c = some (p, ok) /\ (c.Kind = 1 -> ok = true -> MsgOk c.Message) /\ (c.Kind = 2 -> ok = true -> IdOk c.Id /\ 1 <= c.Time /\ c.Time <= 1073741824) := by
 rw [zet, cid_eq]
 simp only [Option.bind_some]
 obtain ⟨v2, h2⟩ : ∃ v2, (if decide (IdOk c.Id) = true then zce c.Topic 0 3 else some default) = some v2 := by split <;> exact ⟨_, by first | exact in_eq _ _ _ | rfl⟩
 rw [h2]
 simp only [Option.bind_some]
 obtain ⟨v3, h3⟩ : ∃ v3, (if decide (IdOk c.Id) = true /\ v2 = true then zce c.N 0 1073741824 else some default) = some v3 := by split <;> exact ⟨_, by first | exact in_eq _ _ _ | rfl⟩
 rw [h3]
 simp only [Option.bind_some]
 by_cases k0 : c.Kind = 0
 ·rw [if_pos k0]; exact ⟨_, _, rfl, by intro h; omega, by intro h; omega⟩
 rw [if_neg k0]
 by_cases k1 : c.Kind = 1
 ·rw [if_pos k1]
  obtain ⟨e, he⟩ := (msg_tot c.Message).1
  rw [he]
  exact ⟨_, _, rfl, fun _ h => by rw [MsgOk, he]; simp at h; rw [h], by intro h; omega⟩
 rw [if_neg k1]
 by_cases k2 : c.Kind = 2
 ·rw [if_pos k2]
  by_cases hi : IdOk c.Id
  ·simp only [hi, decide_true, if_true, Option.bind_some, in_eq]
   exact ⟨_, _, rfl, by intro h; omega, fun _ h => ⟨trivial, by simpa using h⟩⟩
  ·simp only [hi, decide_false, Bool.false_eq_true, if_false, Option.bind_some]
   exact ⟨_, _, rfl, by intro h; omega, fun _ h => by simp at h⟩
 rw [if_neg k2]
 by_cases k3 : c.Kind = 3
 ·rw [if_pos k3, qcheck_eq]
  exact ⟨_, _, rfl, by intro h; omega, by intro h; omega⟩
 rw [if_neg k3]
 by_cases k4 : c.Kind = 4
 ·rw [if_pos k4]
  obtain ⟨v8, h8⟩ : ∃ v8, (if (decide (IdOk c.Id) = true /\ v2 = true) /\ v3 = true then zce c.Who 0 7 else some default) = some v8 := by split <;> exact ⟨_, by first | exact in_eq _ _ _ | rfl⟩
  rw [h8]
  exact ⟨_, _, rfl, by intro h; omega, by intro h; omega⟩
 rw [if_neg k4]
 by_cases k5 : c.Kind = 5
 ·rw [if_pos k5]
  simp only [Option.bind_some, k5]
  exact ⟨_, _, rfl, by intro h; omega, by intro h; omega⟩
 ·rw [if_neg k5]
  simp only [Option.bind_some]
  by_cases k6 : (c.Kind == 6) = true
  ·rw [if_pos k6]; exact ⟨_, _, rfl, by intro h; omega, by intro h; omega⟩
  ·rw [if_neg k6]; exact ⟨_, _, rfl, by intro h; omega, by intro h; omega⟩
theorem cmd_tot (c : TCommand) : ∃ e, zdq c = some e /\ (e = 0 -> (c.Kind = 1 -> MsgOk c.Message) /\ (c.Kind = 2 -> IdOk c.Id /\ 1 <= c.Time /\ c.Time <= 1073741824)) := by
 obtain ⟨p, ok, h, h1, h2⟩ := plain_tot c
 rw [zdq, h]
 simp only [Option.bind_some, cs_eq]
 cases ok with
 | false => exact ⟨120, by simp, by intro h; cases h⟩
 | true =>
  simp only [not_true_eq_false, not_false_eq_true, if_true, Option.bind_some, false_or]
  split
  ·exact ⟨120, rfl, by intro h; cases h⟩
  ·exact ⟨0, rfl, fun _ => ⟨fun k => h1 k rfl, fun k => h2 k rfl⟩⟩
theorem clone_int (l : List Int) (h : l.length * 8 <= 140737488355328) : zbu l = some l := by rw [zbu, if_pos h]
theorem twin_loop (v : List TWait) (hv : v.length < 1000000) : ∀ (fu k : Nat) (l : List TWait), l.length = v.length -> v.length - k < fu -> k <= v.length -> (∀ w ∈ l, w.Message.Groups.length * 8 <= 140737488355328) -> zcc v fu l (k : Int) = some l := by
 intro fu
 induction fu with
 | zero => intro k l _ h; omega
 | succ fu ih =>
  intro k l hl h hk hg
  rw [zcc]
  by_cases hlt : k < v.length
  ·have hk' : k < l.length := by omega
   have hgd : l.getD (k : Int).toNat default = l[k] := by simp [List.getD, List.getElem?_eq_getElem hk']
   have hw : wr .i64 ((k : Int) + 1) = ((k + 1 : Nat) : Int) := wr_eq _ _ (by show (-9223372036854775808 : Int) <= _; omega) (by show _ <= (9223372036854775807 : Int); omega)
   rw [if_pos (by omega), if_pos (by omega), hgd, clone_int _ (hg _ (List.getElem_mem hk'))]
   simp only [Option.bind_some]
   have e : l.set (k : Int).toNat l[k] = l := by rw [Int.toNat_natCast]; simp
   rw [if_pos (by omega)]
   show zcc v fu (l.set (k : Int).toNat l[k]) (wr .i64 ((k : Int) + 1)) = _
   rw [e, hw]
   exact ih (k + 1) l hl (by omega) (by omega) hg
  ·rw [if_neg (by omega), if_pos (by omega)]
theorem twin_sk (s : TSkeen) (h1 : s.Waits.length <= 1000) (h2 : s.Done.length <= 1000) (h3 : ∀ w ∈ s.Waits, w.Message.Groups.length * 8 <= 140737488355328) : zcd s = some s := by
 rw [zcd, zd8, if_pos (by omega), zcz, if_pos (by omega)]
 simp only [Option.bind_some]
 have := twin_loop s.Waits (by omega) (s.Waits.length + 1) 0 s.Waits rfl (by omega) (by omega) h3
 rw [show ((0 : Nat) : Int) = 0 from rfl] at this
 rw [this]
 rfl
structure J (c : Int) (W : List TWait) (D : List TStamp) : Prop where
 c1 : c <= 1073741824
 d : DOk c D
 w : WOk c D W
theorem V.j {s : TSkeen} (h : V s) : J s.Clock s.Waits s.Done := ⟨h.c1, h.d, h.w⟩
theorem J.ids {c : Int} {W : List TWait} {D : List TStamp} (h : J c W D) : ∀ w ∈ W, IdOk w.Message.Id := fun w hw => (h.w.1 w hw).1.id
theorem J.mono {c c' : Int} {W : List TWait} {D : List TStamp} (h : J c W D) (h1 : c <= c') (h2 : c' <= 1073741824) : J c' W D :=
 ⟨h2, ⟨fun x hx => by have := h.d.1 x hx; exact ⟨this.1, this.2.1, by omega⟩, h.d.2⟩, ⟨fun w hw => by have := h.w.1 w hw; exact ⟨this.1, this.2.1, by have := this.2.2.1; omega, this.2.2.2⟩, h.w.2⟩⟩
theorem at_id {W : List TWait} (hu : IdsUp W) {a b : TWait} (ha : a ∈ W) (hb : b ∈ W) (h : a.Message.Id = b.Message.Id) : a = b := by
 obtain ⟨i, hi, rfl⟩ := List.getElem_of_mem ha
 obtain ⟨j, hj, rfl⟩ := List.getElem_of_mem hb
 rcases Nat.lt_trichotomy i j with hh | hh | hh
 ·have := List.pairwise_iff_getElem.1 hu i j hi hj hh; omega
 ·subst hh; rfl
 ·have := List.pairwise_iff_getElem.1 hu j i hj hi hh; omega
theorem final_eq (s : TSkeen) (id t : Int) (hl : s.Waits.length < 1000000) (hj : J s.Clock s.Waits s.Done) (hi : IdOk id) :
  (zbo ⟨s⟩ id t = some ⟨s⟩ /\ ∀ w ∈ s.Waits, w.Message.Id = id -> w.Final = true \/ t < w.Time) \/
  ∃ (k : Nat) (hk : k < s.Waits.length), s.Waits[k].Message.Id = id /\ s.Waits[k].Final = false /\ s.Waits[k].Time <= t /\ zbo ⟨s⟩ id t = some ⟨⟨max s.Clock t, s.Waits.set k ⟨s.Waits[k].Message, t, true⟩, s.Done⟩⟩ := by
 rw [zbo, find_eq ⟨s⟩ id hl hj.w.2 hj.ids hi]
 simp only [Option.bind_some]
 have hp := plc_at id s.Waits hj.w.2
 by_cases hx : ∃ w ∈ s.Waits, w.Message.Id = id
 ·obtain ⟨hk, he⟩ := hp.1 hx
  have hgd : s.Waits.getD ((plc id s.Waits : Nat) : Int).toNat default = s.Waits[plc id s.Waits] := by rw [Int.toNat_natCast]; simp [List.getD, List.getElem?_eq_getElem hk]
  have hgd2 : ∀ x : TWait, (s.Waits.set ((plc id s.Waits : Nat) : Int).toNat x).getD ((plc id s.Waits : Nat) : Int).toNat default = x := by
   intro x; rw [Int.toNat_natCast]; simp [List.getD, hk]
  simp only [hx, decide_true, not_true_eq_false, not_false_eq_true, false_or, hgd, hgd2]
  rw [if_pos (by intro _; omega), if_pos (by intro _; omega)]
  by_cases hf : s.Waits[plc id s.Waits].Final = true \/ t < s.Waits[plc id s.Waits].Time
  ·left
   rw [if_pos hf]
   refine ⟨rfl, fun w hw hid => ?_⟩
   have := at_id hj.w.2 hw (List.getElem_mem hk) (hid.trans he.symm)
   rw [this]; exact hf
  ·right
   rw [if_neg hf, if_pos (by omega), if_pos (by simp only [List.length_set]; omega)]
   refine ⟨plc id s.Waits, hk, he, ?_, by omega, ?_⟩
   ·cases hq : s.Waits[plc id s.Waits].Final with
    | false => rfl
    | true => exact absurd (.inl hq) hf
   ·rw [Int.toNat_natCast, List.set_set]
 ·left
  have hx' : ∀ w ∈ s.Waits, w.Message.Id ≠ id := fun w hw he => hx ⟨w, hw, he⟩
  simp only [hx, decide_false, Bool.false_eq_true, not_false_eq_true, not_true_eq_false, false_implies, if_true, true_or]
  exact ⟨trivial, fun w hw he => absurd he (hx' w hw)⟩
theorem J.set {c t : Int} {W : List TWait} {D : List TStamp} (h : J c W D) (k : Nat) (hk : k < W.length) (h1 : W[k].Time <= t) (h2 : t <= 1073741824) : J (max c t) (W.set k ⟨W[k].Message, t, true⟩) D := by
 have h' := h.mono (c' := max c t) (Int.le_max_left _ _) (by have := h.c1; omega)
 refine ⟨h'.c1, h'.d, fun w hw => ?_, ?_⟩
 ·rcases List.mem_or_eq_of_mem_set hw with hw | rfl
  ·exact h'.w.1 w hw
  ·have hm := h'.w.1 _ (List.getElem_mem hk)
   refine ⟨hm.1, by have := hm.2.1; show 1 <= t; omega, Int.le_max_right _ _, hm.2.2.2.1, fun x hx => ?_⟩
   have hl := hm.2.2.2.2 x hx
   show ltS x ⟨t, W[k].Message.Id⟩
   unfold ltS stW at *
   simp only at hl ⊢
   omega
 ·have hu := h.w.2
  unfold IdsUp at hu ⊢
  rw [<- List.pairwise_map (f := fun w : TWait => w.Message.Id) (R := fun a b => a < b)] at hu ⊢
  rw [List.map_set]
  have : (W.map fun w : TWait => w.Message.Id).set k W[k].Message.Id = W.map fun w : TWait => w.Message.Id := by
   apply List.ext_getElem
   ·simp
   ·intro i h1 h2
    rw [List.getElem_set]
    split
    ·rename_i e; subst e; simp
    ·rfl
  rw [this]
  exact hu
theorem assign_eq (s : TSkeen) (g : Int) (m : TMessage) (hl : s.Waits.length <= 200) (hc0 : 0 <= s.Clock) (hj : J s.Clock s.Waits s.Done) (hm : MsgOk m) :
  (∃ e, zbq ⟨s⟩ g m = some (e, ⟨s⟩)) \/
  (g ∈ m.Groups /\ s.Clock < 1073741824 /\ s.Waits.length < 200 /\ (∀ x ∈ s.Done, x.Id ≠ m.Id) /\ (∀ w ∈ s.Waits, w.Message.Id ≠ m.Id) /\
   zbq ⟨s⟩ g m = some (0, ⟨⟨s.Clock + 1, s.Waits.take (plc m.Id s.Waits) ++ ⟨m, s.Clock + 1, false⟩ :: s.Waits.drop (plc m.Id s.Waits), s.Done⟩⟩)) := by
 rw [zbq, find_eq ⟨s⟩ m.Id (by show s.Waits.length < 1000000; omega) hj.w.2 hj.ids hm.id, done_eq]
 simp only [Option.bind_some]
 by_cases hx : ∃ w ∈ s.Waits, w.Message.Id = m.Id
 ·left
  simp only [hx, decide_true, not_true_eq_false, if_false, true_or, Option.bind_some, if_true]
  exact ⟨0, rfl⟩
 ·have hx' : ∀ w ∈ s.Waits, w.Message.Id ≠ m.Id := fun w hw he => hx ⟨w, hw, he⟩
  simp only [hx, decide_false, Bool.false_eq_true, not_false_eq_true, if_true, false_or, Option.bind_some]
  cases hd : s.Done.any fun x => x.Id == m.Id with
  | true =>
   left
   simp only [not_true_eq_false, if_false, Option.bind_some, true_or, if_true]
   exact ⟨0, rfl⟩
  | false =>
   have hd' : ∀ x ∈ s.Done, x.Id ≠ m.Id := by
    intro x hxd he
    have := List.any_eq_false.1 hd x hxd
    simp [he] at this
   have hg := contains_eq m.Groups g
   simp only [Bool.false_eq_true, not_false_eq_true, if_true, false_or, Option.bind_some, hg]
   by_cases hgm : g ∈ m.Groups
   ·simp only [hgm, decide_true, not_true_eq_false, if_false]
    by_cases hfull : s.Clock = 1073741824 \/ (s.Waits.length : Int) = 200
    ·left; rw [if_pos hfull]; exact ⟨9, rfl⟩
    ·right
     have hc1 := hj.c1
     rw [if_neg hfull, clone_int _ (by have := hm.groups; omega)]
     simp only [Option.bind_some]
     have hple := plc_le m.Id s.Waits
     rw [if_pos (by omega), if_pos (by omega), wr_eq _ _ (by show (-9223372036854775808 : Int) <= _; omega) (by show _ <= (9223372036854775807 : Int); omega), Int.toNat_natCast]
     exact ⟨trivial, by omega, by omega, hd', hx', rfl⟩
   ·left
    simp only [hgm, decide_false, Bool.false_eq_true, not_false_eq_true, if_true]
    exact ⟨0, rfl⟩
theorem J.ins {c : Int} {W : List TWait} {D : List TStamp} (h : J c W D) (m : TMessage) (hm : MsgOk m) (h0 : 0 <= c) (h1 : c < 1073741824) (hD : ∀ x ∈ D, x.Id ≠ m.Id) (hW : ∀ w ∈ W, w.Message.Id ≠ m.Id) :
  J (c + 1) (W.take (plc m.Id W) ++ ⟨m, c + 1, false⟩ :: W.drop (plc m.Id W)) D := by
 have h' := h.mono (c' := c + 1) (by omega) (by omega)
 refine ⟨h'.c1, h'.d, fun w hw => ?_, ?_⟩
 ·have : w = ⟨m, c + 1, false⟩ \/ w ∈ W := by
   rcases List.mem_append.1 hw with hw | hw
   ·exact .inr (List.mem_of_mem_take hw)
   ·rcases List.mem_cons.1 hw with hw | hw
    ·exact .inl hw
    ·exact .inr (List.mem_of_mem_drop hw)
  rcases this with rfl | hw
  ·refine ⟨hm, by show 1 <= c + 1; omega, Int.le_refl _, hD, fun x hx => ?_⟩
   have := (h.d.1 x (List.mem_of_getLast? hx)).2.2
   exact .inl (by show x.Time < c + 1; omega)
  ·exact h'.w.1 w hw
 ·have hu := h.w.2
  have hlt := plc_lt m.Id W hu
  have hple := plc_le m.Id W
  have t1 : ∀ w ∈ W.take (plc m.Id W), w.Message.Id < m.Id := by
   intro w hw
   obtain ⟨i, hi, rfl⟩ := List.getElem_of_mem hw
   rw [List.getElem_take]
   have : i < plc m.Id W := by simp at hi; omega
   exact (hlt i (by omega)).2 this
  have t2 : ∀ w ∈ W.drop (plc m.Id W), m.Id < w.Message.Id := by
   intro w hw
   have hwW := List.mem_of_mem_drop hw
   obtain ⟨i, hi, rfl⟩ := List.getElem_of_mem hw
   have hne := hW _ hwW
   rw [List.getElem_drop] at hne ⊢
   have hi' : plc m.Id W + i < W.length := by simp at hi; omega
   have : ¬ W[plc m.Id W + i].Message.Id < m.Id := fun k => by have := (hlt _ hi').1 k; omega
   omega
  unfold IdsUp
  rw [List.pairwise_append]
  refine ⟨hu.sublist (List.take_sublist _ _), List.pairwise_cons.2 ⟨t2, hu.sublist (List.drop_sublist _ _)⟩, fun a ha b hb => ?_⟩
  have ha' := t1 a ha
  rcases List.mem_cons.1 hb with rfl | hb
  ·exact ha'
  ·have := t2 b hb; omega
theorem del_loop (c0 : Tskeen_clock) (c : Int) : ∀ (fu : Nat) (W : List TWait) (D : List TStamp) (M : List TMessage), W.length < fu -> J c W D -> W.length + D.length <= 1000 -> M.length + W.length <= 1000 ->
  ∃ (ws W' : List TWait), zak c0 fu W D M = some (W', D ++ ws.map stW, M ++ ws.map TWait.Message) /\ J c W' (D ++ ws.map stW) /\ (∀ y l, W' = y :: l -> (minW y l).Final = false) /\
   (∀ w ∈ ws, w ∈ W /\ w.Final = true) /\ (∀ w ∈ W', w ∈ W) /\ (∀ w ∈ W, w ∈ W' \/ w ∈ ws) /\ W'.length + ws.length = W.length := by
 intro fu
 induction fu with
 | zero => intro W D M h; omega
 | succ fu ih =>
  intro W D M h hj h1 h2
  rw [zak]
  cases hW : W with
  | nil =>
   refine ⟨[], [], by simp, by subst hW; simpa using hj, by simp, by simp, by simp, by simp, rfl⟩
  | cons y l =>
   rw [if_pos (by simp only [List.length_cons]; omega), minw_eq y l (by rw [hW] at h1; simp at h1; omega)]
   simp only [Option.bind_some]
   have hmem : minW y l ∈ W := by
    rw [hW]
    rcases minW_mem l y with hh | hh
    ·rw [hh]; simp
    ·exact List.mem_cons_of_mem _ hh
   by_cases hf : (minW y l).Final = true
   ·rw [if_neg (by simp [hf])]
    have hfd := find_eq ⟨⟨c0.Skeen.Clock, W, D⟩⟩ (minW y l).Message.Id (by show W.length < 1000000; omega) hj.w.2 hj.ids (hj.ids _ hmem)
    rw [<- hW, hfd]
    simp only [Option.bind_some]
    obtain ⟨hk, he⟩ := (plc_at (minW y l).Message.Id W hj.w.2).1 ⟨_, hmem, rfl⟩
    generalize hK : plc (minW y l).Message.Id W = K at hk he
    have hat : W[K] = minW y l := at_id hj.w.2 (List.getElem_mem hk) hmem he
    rw [if_pos (by omega), if_pos (by omega)]
    have e1 : ze6 (minW y l) = some (stW (minW y l)) := rfl
    rw [e1]
    simp only [Option.bind_some, List.length_cons, List.length_nil, Int.toNat_natCast]
    have hWl : W.length = l.length + 1 := by rw [hW]; simp
    rw [if_pos (by omega), if_pos (by omega)]
    have hv := hj.w.1 _ hmem
    have hsub : ∀ w ∈ W.eraseIdx K, w ∈ W := fun w hw => List.mem_of_mem_eraseIdx hw
    have hne : ∀ w ∈ W.eraseIdx K, w.Message.Id ≠ (minW y l).Message.Id := by
     intro w hw hid
     obtain ⟨i, hi, hik, rfl⟩ := List.mem_eraseIdx_iff_getElem.1 hw
     have e2 := at_id hj.w.2 (List.getElem_mem hi) hmem hid
     rw [<- hat] at hid
     rcases Nat.lt_or_gt_of_ne hik with hh | hh
     ·have := List.pairwise_iff_getElem.1 hj.w.2 i K hi hk hh; omega
     ·have := List.pairwise_iff_getElem.1 hj.w.2 K i hk hi hh; omega
    have hle : ∀ w ∈ W, ¬ ltS (stW w) (stW (minW y l)) := by
     intro w hw
     rw [hW] at hw
     rcases List.mem_cons.1 hw with rfl | hw
     ·exact (minW_le l _).1
     ·exact (minW_le l y).2 w hw
    have hid := hv.1.id
    have hJ : J c (W.eraseIdx K) (D ++ [stW (minW y l)]) := by
     refine ⟨hj.c1, (hj.d.snoc _).2 ⟨⟨⟨?_, ?_, hid.1, ?_⟩, hv.2.1, hv.2.2.1⟩, hv.2.2.2.2, fun hm => ?_⟩, fun w hw => ?_, hj.w.2.sublist (List.eraseIdx_sublist _ _)⟩
     ·have := hv.2.1; show 0 <= (minW y l).Time; omega
     ·have := hv.2.2.1; have := hj.c1; show (minW y l).Time <= 1073741824; omega
     ·have := hid.2; show (minW y l).Message.Id < 6291456; omega
     ·obtain ⟨x, hx, he2⟩ := List.mem_map.1 hm
      exact hv.2.2.2.1 x hx he2
     ·have hw1 := hj.w.1 w (hsub w hw)
      refine ⟨hw1.1, hw1.2.1, hw1.2.2.1, fun x hx => ?_, fun x hx => ?_⟩
      ·rcases List.mem_append.1 hx with hx | hx
       ·exact hw1.2.2.2.1 x hx
       ·simp at hx; subst hx; exact fun e => hne w hw e.symm
      ·simp at hx; subst hx
       exact ltS_total (fun e => hne w hw e.symm) (hle w (hsub w hw))
    have hlen : (W.eraseIdx K).length = W.length - 1 := List.length_eraseIdx_of_lt hk
    obtain ⟨ws, W', g1, g2, g3, g4, g5, g6, g7⟩ := ih (W.eraseIdx K) (D ++ [stW (minW y l)]) (M ++ [(minW y l).Message]) (by omega) hJ (by simp; omega) (by simp; omega)
    refine ⟨minW y l :: ws, W', ?_, ?_, g3, ?_, ?_, ?_, ?_⟩
    ·rw [g1]; simp
    ·simpa using g2
    ·intro w hw
     rcases List.mem_cons.1 hw with rfl | hw
     ·exact ⟨hmem, hf⟩
     ·exact ⟨hsub w (g4 w hw).1, (g4 w hw).2⟩
    ·intro w hw; exact hsub w (g5 w hw)
    ·intro w hw
     by_cases hwv : w = minW y l
     ·right; simp [hwv]
     ·have : w ∈ W.eraseIdx K := by
       obtain ⟨i, hi, rfl⟩ := List.getElem_of_mem hw
       exact List.mem_eraseIdx_iff_getElem.2 ⟨i, hi, fun e => hwv (by subst e; exact hat), rfl⟩
      rcases g6 w this with hh | hh
      ·exact .inl hh
      ·exact .inr (List.mem_cons_of_mem _ hh)
    ·simp only [List.length_cons]; omega
   ·rw [if_pos (by simpa using hf)]
    refine ⟨[], W, by simp [hW], by simpa using hj, fun y' l' hh => ?_, by simp, by intro w hw; rw [<- hW]; exact hw, by intro w hw; left; rw [hW]; exact hw, by simp [hW]⟩
    rw [hW] at hh; cases hh; simpa using hf
def Step (s : TSkeen) (g : Int) (c : TCommand) (W : List TWait) (ck : Int) : Prop :=
 (W = s.Waits /\ ck = s.Clock) \/
 (c.Kind = 1 /\ g ∈ c.Message.Groups /\ ck = s.Clock + 1 /\ W = s.Waits.take (plc c.Message.Id s.Waits) ++ ⟨c.Message, s.Clock + 1, false⟩ :: s.Waits.drop (plc c.Message.Id s.Waits)) \/
 (c.Kind = 2 /\ ck = max s.Clock c.Time /\ ∃ (k : Nat) (hk : k < s.Waits.length), s.Waits[k].Message.Id = c.Id /\ s.Waits[k].Final = false /\ s.Waits[k].Time <= c.Time /\ W = s.Waits.set k ⟨s.Waits[k].Message, c.Time, true⟩)
def zSk : TSkeen := ⟨0, [], []⟩
theorem check_ok {s : TSkeen} (h : V s) : zew s = some 0 := by
 obtain ⟨e, he, hi⟩ := sk_check s
 rw [he, hi.2 h]
theorem apply_ok (s : TSkeen) (g : Int) (c : TCommand) (h : V s) :
  (∃ e, e ≠ 0 /\ zbk s g c = some (zSk, [], e) /\ (0 <= g /\ g < 4 -> zdq c = some 0 -> c.Kind = 2 -> s.Waits.length + s.Done.length > 200)) \/
  ∃ (W : List TWait) (ck : Int) (ws W' : List TWait), Step s g c W ck /\ zbk s g c = some (⟨ck, W', s.Done ++ ws.map stW⟩, ws.map TWait.Message, 0) /\ V ⟨ck, W', s.Done ++ ws.map stW⟩ /\ s.Clock <= ck /\ 
   (∀ w ∈ ws, w ∈ W /\ w.Final = true) /\ (∀ w ∈ W', w ∈ W) /\ (∀ w ∈ W, w ∈ W' \/ w ∈ ws) /\ W'.length + ws.length = W.length /\ 
   (c.Kind = 2 -> ∀ w ∈ s.Waits, w.Message.Id = c.Id -> w.Final = false -> w.Time <= c.Time -> ∃ (k : Nat) (hk : k < s.Waits.length), s.Waits[k] = w /\ W = s.Waits.set k ⟨w.Message, c.Time, true⟩) := by
 have hj := h.j
 have hlw := h.lw
 have hld := h.ld
 rw [zbk, check_ok h]
 simp only [Option.bind_some, not_true_eq_false, if_false]
 by_cases hg : g < 0 \/ g >= 4
 ·rw [if_pos hg]
  exact .inl ⟨2, by omega, rfl, by intro h; omega⟩
 rw [if_neg hg]
 obtain ⟨e, he, hc⟩ := cmd_tot c
 rw [he]
 simp only [Option.bind_some]
 by_cases he0 : e = 0
 case neg => rw [if_pos he0]; exact .inl ⟨e, he0, rfl, by intro _ h; exact absurd (Option.some.inj h) he0⟩
 obtain ⟨hc1, hc2⟩ := hc he0
 have htw : zcd s = some s := twin_sk s (by omega) (by omega) (fun w hw => by have := (hj.w.1 w hw).1.groups; omega)
 rw [if_neg (by omega), htw]
 simp only [Option.bind_some]
 -- the end: what is delivered
 have fin : ∀ (W : List TWait) (ck : Int), J ck W s.Done -> 0 <= ck -> W.length <= 200 -> ∃ (ws W' : List TWait), zc1 ⟨⟨ck, W, s.Done⟩⟩ = some (ws.map TWait.Message, ⟨⟨ck, W', s.Done ++ ws.map stW⟩⟩) /\
   ((s.Done ++ ws.map stW).length <= 200 -> V ⟨ck, W', s.Done ++ ws.map stW⟩) /\ (∀ w ∈ ws, w ∈ W /\ w.Final = true) /\ (∀ w ∈ W', w ∈ W) /\ (∀ w ∈ W, w ∈ W' \/ w ∈ ws) /\ W'.length + ws.length = W.length := by
  intro W ck hJ h0 hl
  obtain ⟨ws, W', g1, g2, g3, g4, g5, g6, g7⟩ := del_loop ⟨⟨ck, W, s.Done⟩⟩ ck (W.length + 1) W s.Done [] (by omega) hJ (by omega) (by simp; omega)
  refine ⟨ws, W', ?_, fun hd => ⟨h0, g2.c1, by show W'.length <= 200; omega, hd, g2.d, g2.w, g3⟩, g4, g5, g6, g7⟩
  rw [zc1, g1]
  simp
 by_cases k1 : c.Kind = 1
 ·rw [if_pos k1]
  rcases assign_eq s g c.Message hlw h.c0 hj (hc1 k1) with ⟨e2, ha⟩ | ⟨a1, a2, a3, a4, a5, ha⟩
  ·have ha' : zbq ⟨s⟩ g c.Message = _ := ha
   rw [ha']
   simp only [Option.bind_some]
   by_cases he2 : e2 = 0
   ·rw [if_neg (by omega)]
    simp only [Option.bind_some]
    obtain ⟨ws, W', d1, d2, d3, d4, d5, d6⟩ := fin s.Waits s.Clock hj h.c0 hlw
    rw [d1]
    simp only [Option.bind_some]
    by_cases hfull : ((s.Done ++ ws.map stW).length : Int) > 200
    ·rw [if_pos hfull]; exact .inl ⟨9, by omega, rfl, by intro _ _ h; omega⟩
    ·rw [if_neg hfull]
     exact .inr ⟨s.Waits, s.Clock, ws, W', .inl ⟨rfl, rfl⟩, rfl, d2 (by omega), Int.le_refl _, d3, d4, d5, d6, by intro h; omega⟩
   ·rw [if_pos he2]
    exact .inl ⟨e2, he2, rfl, by intro _ _ h; omega⟩
  ·have ha' : zbq ⟨s⟩ g c.Message = _ := ha
   rw [ha']
   simp only [Option.bind_some, not_true_eq_false, if_false]
   have hpl := plc_le c.Message.Id s.Waits
   obtain ⟨ws, W', d1, d2, d3, d4, d5, d6⟩ := fin _ _ (hj.ins c.Message (hc1 k1) h.c0 a2 a4 a5) (by have := h.c0; omega) (by simp; omega)
   rw [d1]
   simp only [Option.bind_some]
   by_cases hfull : ((s.Done ++ ws.map stW).length : Int) > 200
   ·rw [if_pos hfull]; exact .inl ⟨9, by omega, rfl, by intro _ _ h; omega⟩
   ·rw [if_neg hfull]
    exact .inr ⟨_, s.Clock + 1, ws, W', .inr (.inl ⟨k1, a1, rfl, rfl⟩), rfl, d2 (by omega), by omega, d3, d4, d5, d6, by intro h; omega⟩
 rw [if_neg k1]
 by_cases k2 : c.Kind = 2
 ·rw [if_pos k2]
  obtain ⟨i1, i2, i3⟩ := hc2 k2
  rcases final_eq s c.Id c.Time (by omega) hj i1 with ⟨hf, hno⟩ | ⟨k, hk, b1, b2, b3, hf⟩
  ·have hf' : zbo ⟨s⟩ c.Id c.Time = _ := hf
   rw [hf']
   simp only [Option.bind_some]
   obtain ⟨ws, W', d1, d2, d3, d4, d5, d6⟩ := fin s.Waits s.Clock hj h.c0 hlw
   rw [d1]
   simp only [Option.bind_some]
   by_cases hfull : ((s.Done ++ ws.map stW).length : Int) > 200
   ·rw [if_pos hfull]
    refine .inl ⟨9, by omega, rfl, fun _ _ _ => ?_⟩
    simp at hfull; omega
   ·rw [if_neg hfull]
    refine .inr ⟨s.Waits, s.Clock, ws, W', .inl ⟨rfl, rfl⟩, rfl, d2 (by omega), Int.le_refl _, d3, d4, d5, d6, fun _ w hw hid hfn ht => ?_⟩
    rcases hno w hw hid with hh | hh
    ·rw [hfn] at hh; cases hh
    ·omega
  ·have hf' : zbo ⟨s⟩ c.Id c.Time = _ := hf
   rw [hf']
   simp only [Option.bind_some]
   obtain ⟨ws, W', d1, d2, d3, d4, d5, d6⟩ := fin _ _ (hj.set k hk b3 i3) (by have := h.c0; have := Int.le_max_left s.Clock c.Time; omega) (by simpa using hlw)
   rw [d1]
   simp only [Option.bind_some]
   by_cases hfull : ((s.Done ++ ws.map stW).length : Int) > 200
   ·rw [if_pos hfull]
    refine .inl ⟨9, by omega, rfl, fun _ _ _ => ?_⟩
    simp at hfull d6; omega
   ·rw [if_neg hfull]
    refine .inr ⟨_, max s.Clock c.Time, ws, W', .inr (.inr ⟨k2, rfl, k, hk, b1, b2, b3, rfl⟩), rfl, d2 (by omega), Int.le_max_left _ _, d3, d4, d5, d6, fun _ w hw hid hfn ht => ?_⟩
    have := at_id hj.w.2 hw (List.getElem_mem hk) (hid.trans b1.symm)
    exact ⟨k, hk, this.symm, by rw [this]⟩
 ·rw [if_neg k2]
  simp only [Option.bind_some]
  obtain ⟨ws, W', d1, d2, d3, d4, d5, d6⟩ := fin s.Waits s.Clock hj h.c0 hlw
  rw [d1]
  simp only [Option.bind_some]
  by_cases hfull : ((s.Done ++ ws.map stW).length : Int) > 200
  ·rw [if_pos hfull]; exact .inl ⟨9, by omega, rfl, by intro _ _ h; omega⟩
  ·rw [if_neg hfull]
   exact .inr ⟨s.Waits, s.Clock, ws, W', .inl ⟨rfl, rfl⟩, rfl, d2 (by omega), Int.le_refl _, d3, d4, d5, d6, by intro h; omega⟩
end Go.Proofs
end
section
namespace Go.Proofs
open Go.Tm
set_option linter.unusedSimpArgs false
set_option linter.unusedVariables false
theorem wr_ok (x : Int) (h : -9000000000000000000 <= x /\ x <= 9000000000000000000) : wr .i64 x = x := wr_eq _ _ (by show (-9223372036854775808 : Int) <= _; omega) (by show _ <= (9223372036854775807 : Int); omega)
theorem rises_loop (l : List TStamp) (hl : l.length < 1000000) (hp : l.Pairwise ltS) : ∀ (fu i : Nat), l.length - i < fu -> zck l fu (i : Int) = some (.inr ()) := by
 intro fu
 induction fu with
 | zero => intro i h; omega
 | succ fu ih =>
  intro i h
  have hw1 : wr .i64 ((l.length : Int) - 1) = (l.length : Int) - 1 := wr_ok _ (by omega)
  rw [zck, hw1]
  by_cases hc : (i : Int) < max 0 ((l.length : Int) - 1)
  ·have hi : i + 1 < l.length := by omega
   have hw : wr .i64 ((i : Int) + 1) = ((i + 1 : Nat) : Int) := wr_ok _ (by omega)
   have hg1 : l.getD (i : Int).toNat default = l[i] := by rw [Int.toNat_natCast]; simp [List.getD, List.getElem?_eq_getElem (show i < l.length by omega)]
   have hg2 : l.getD ((i + 1 : Nat) : Int).toNat default = l[i + 1] := by rw [Int.toNat_natCast]; simp [List.getD, List.getElem?_eq_getElem hi]
   rw [if_pos hc, if_pos (by omega), hw, if_pos (by omega), hg1, hg2, less_eq]
   simp only [Option.bind_some]
   rw [if_neg (by simpa using List.pairwise_iff_getElem.1 hp i (i + 1) (by omega) hi (by omega))]
   exact ih (i + 1) (by omega)
  ·rw [if_neg hc]
theorem rises_eq (l : List TStamp) (hl : l.length < 1000000) (hp : l.Pairwise ltS) : zec l = some true := by
 have := rises_loop l hl hp (l.length + 1) 0 (by omega)
 rw [show ((0 : Nat) : Int) = 0 from rfl] at this
 rw [zec, this]; rfl
end Go.Proofs
end
section
namespace Go.Proofs
open Go.Tm
set_option linter.unusedSimpArgs false
theorem nin_tot (n : Int) : ∃ b, zl4 n = some b /\ (b = true -> 0 <= n /\ n <= 1099511627776) := by
 rw [zl4]
 refine ⟨_, rfl, fun h => ?_⟩
 simp at h
 omega
structure GetOk (l : List Int) (r : Int × Int × Int) : Prop where
 s0 : 0 <= r.2.1
 s1 : r.2.1 <= l.length
 n0 : r.2.2 = 0 -> 0 <= r.1 /\ r.1 <= 1099511627776
theorem get_loop : ∀ (l : List Int) (k : Nat) (n : Int), (∃ u, zd5 l k n = some (.inr u)) \/ ∃ a b, zd5 l k n = some (.inl (a, b, 0)) /\ 0 <= b /\ b <= k + l.length /\ 0 <= a /\ a <= 1099511627776 := by
 intro l
 induction l with
 | nil => intro k n; exact .inl ⟨(), rfl⟩
 | cons y l ih =>
  intro k n
  rw [zd5]
  by_cases h5 : (k : Int) > 5
  ·rw [if_pos h5]; exact .inl ⟨(), rfl⟩
  rw [if_neg h5, if_pos (by rw [wr_ok _ (by omega)]; omega)]
  by_cases h7 : y > 127
  ·rw [if_pos h7]
   rcases ih (k + 1) _ with h | ⟨a, b, h, h1, h2, h3⟩
   ·exact .inl h
   ·exact .inr ⟨a, b, h, h1, by simp only [List.length_cons]; omega, h3⟩
  ·rw [if_neg h7]
   by_cases h0 : y = 0 /\ (k : Int) > 0
   ·rw [if_neg (fun h => h h0)]
    simp only [Option.bind_some]
    rw [if_pos (.inl h0)]
    exact .inl ⟨(), rfl⟩
   ·rw [if_pos h0]
    obtain ⟨b, hb, hb2⟩ := nin_tot (bitw .or .i64 n (shw true .i64 (wr .i64 (bitw .and .u8 y 127)) (wr .i64 (7 * (k : Int)))))
    rw [hb]
    simp only [Option.bind_some]
    by_cases hbt : b = true
    ·rw [if_neg (by rintro (h | h); exact h0 h; exact h hbt), wr_ok ((k : Int) + 1) (by omega)]
     exact .inr ⟨_, _, rfl, by omega, by simp only [List.length_cons]; omega, hb2 hbt⟩
    ·rw [if_pos (.inr hbt)]
     exact .inl ⟨(), rfl⟩
theorem get_tot (l : List Int) : ∃ r, zgk l = some r /\ GetOk l r := by
 rw [zgk]
 rcases get_loop l 0 0 with ⟨u, h⟩ | ⟨a, b, h, h1, h2, h3⟩
 ·rw [h]; exact ⟨_, rfl, by show (0 : Int) <= 0; omega, by show (0 : Int) <= _; omega, by intro h; cases h⟩
 ·rw [h]; exact ⟨_, rfl, h1, by show b <= _; omega, fun _ => h3⟩
theorem gettext_tot (l : List Int) (hl : l.length <= 1000000) : ∃ r, zfs l = some r /\ 0 <= r.2.1 /\ r.2.1 <= l.length := by
 obtain ⟨v, hv, ho⟩ := get_tot l
 have h1 := ho.s0
 have h2 := ho.s1
 rw [zfs, hv]
 simp only [Option.bind_some]
 by_cases hc : (¬ v.2.2 = 0 \/ v.1 > 4096) \/ v.1 > wr .i64 ((l.length : Int) - v.2.1)
 ·rw [if_pos hc]; exact ⟨_, rfl, by show (0 : Int) <= 0; omega, by show (0 : Int) <= _; omega⟩
 ·rw [if_neg hc]
  rw [wr_ok _ (by omega)] at hc
  have h3 := ho.n0 (by omega)
  rw [wr_ok _ (by omega), if_pos (by omega)]
  exact ⟨_, rfl, by show (0 : Int) <= v.2.1 + v.1; omega, by show v.2.1 + v.1 <= _; omega⟩
theorem getints_loop (l : List Int) (hl : l.length <= 1000000) (v : Int × Int × Int) : ∀ (fu : Nat) (acc : List Int) (at' k : Int), (v.1 - k).toNat < fu -> 0 <= at' -> at' <= l.length -> 0 <= k -> v.1 <= 4096 -> (acc.length : Int) <= k ->
  (∃ e, zc3 l v fu acc at' k = some (.inl ([], 0, e))) \/ ∃ acc' at2, zc3 l v fu acc at' k = some (.inr (acc', at2)) /\ 0 <= at2 /\ at2 <= l.length := by
 intro fu
 induction fu with
 | zero => intro acc at' k h; omega
 | succ fu ih =>
  intro acc at' k h h0 h1 hk hv ha
  rw [zc3]
  by_cases hlt : k < v.1
  ·obtain ⟨r, hr, ho⟩ := get_tot (l.drop at'.toNat)
   have q1 := ho.s0
   have q2 := ho.s1
   simp only [List.length_drop] at q2
   rw [if_pos hlt, if_pos ⟨h0, h1⟩, hr]
   simp only [Option.bind_some]
   by_cases he : ¬ r.2.2 = 0
   ·rw [if_pos he]; exact .inl ⟨_, rfl⟩
   ·rw [if_neg he, if_pos (by simp; omega), wr_ok (at' + r.2.1) (by omega), wr_ok (k + 1) (by omega)]
    exact ih _ _ _ (by omega) (by omega) (by omega) (by omega) hv (by simp; omega)
  ·rw [if_neg hlt]; exact .inr ⟨_, _, rfl, h0, h1⟩
theorem getints_tot (l : List Int) (hl : l.length <= 1000000) (m : Int) : ∃ r, zft l m = some r /\ 0 <= r.2.1 /\ r.2.1 <= l.length := by
 rw [zft]
 by_cases hm : m < 0 \/ m > 4096
 ·rw [if_pos hm]; exact ⟨_, rfl, by show (0 : Int) <= 0; omega, by show (0 : Int) <= _; omega⟩
 rw [if_neg hm]
 obtain ⟨v, hv, ho⟩ := get_tot l
 rw [hv]
 simp only [Option.bind_some]
 by_cases hc : ¬ v.2.2 = 0 \/ v.1 > m
 ·rw [if_pos hc]; exact ⟨_, rfl, by show (0 : Int) <= 0; omega, by show (0 : Int) <= _; omega⟩
 rw [if_neg hc]
 rcases getints_loop l hl v (v.1.toNat + 1) [] v.2.1 0 (by omega) ho.s0 ho.s1 (by omega) (by omega) (by simp) with ⟨e, h⟩ | ⟨a, b, h, h1, h2⟩
 ·rw [h]; exact ⟨_, rfl, by show (0 : Int) <= 0; omega, by show (0 : Int) <= _; omega⟩
 ·rw [h]; exact ⟨_, rfl, h1, h2⟩
theorem take_tot (r : Tcommand_reader) (n e : Int) (h : 0 <= n) : ∃ r', zc4 r n e = some r' /\ r'.fB.length <= r.fB.length := by
 rw [zc4, if_pos (by omega)]
 exact ⟨_, rfl, by simp⟩
theorem zej (r : Tcommand_reader) : ∃ x, zah r = some x /\ x.2.fB.length <= r.fB.length := by
 obtain ⟨v, hv, ho⟩ := get_tot r.fB
 obtain ⟨r', h1, h2⟩ := take_tot r v.2.1 v.2.2 ho.s0
 rw [zah, hv]
 simp only [Option.bind_some, h1]
 exact ⟨_, rfl, h2⟩
theorem text_tot (r : Tcommand_reader) (hl : r.fB.length <= 1000000) : ∃ x, zcm r = some x /\ x.2.fB.length <= r.fB.length := by
 obtain ⟨v, hv, h0, _⟩ := gettext_tot r.fB hl
 obtain ⟨r', h1, h2⟩ := take_tot r v.2.1 v.2.2 h0
 rw [zcm, hv]
 simp only [Option.bind_some, h1]
 exact ⟨_, rfl, h2⟩
theorem ints_tot (r : Tcommand_reader) (hl : r.fB.length <= 1000000) (m : Int) : ∃ x, zcn r m = some x /\ x.2.fB.length <= r.fB.length := by
 obtain ⟨v, hv, h0, _⟩ := getints_tot r.fB hl m
 obtain ⟨r', h1, h2⟩ := take_tot r v.2.1 v.2.2 h0
 rw [zcn, hv]
 simp only [Option.bind_some, h1]
 exact ⟨_, rfl, h2⟩
theorem command_tot (r : Tcommand_reader) (hl : r.fB.length <= 1000000) : ∃ x, zco r = some x := by
 obtain ⟨v1, h1, l1⟩ := zej r
 rw [zco, h1]
 simp only [Option.bind_some]
 by_cases k1 : wr .u8 (min v1.1 255) = 1
 ·obtain ⟨v2, h2, l2⟩ := zej v1.2
  obtain ⟨v3, h3, l3⟩ := ints_tot v2.2 (by omega) 4
  obtain ⟨v4, h4, l4⟩ := zej v3.2
  obtain ⟨v5, h5, l5⟩ := text_tot v4.2 (by omega)
  obtain ⟨v6, h6, l6⟩ := text_tot v5.2 (by omega)
  simp only [k1, if_true, h2, h3, h4, h5, h6, Option.bind_some]
  exact ⟨_, rfl⟩
 by_cases k2 : wr .u8 (min v1.1 255) = 2
 ·obtain ⟨v2, h2, l2⟩ := zej v1.2
  obtain ⟨v3, h3, l3⟩ := zej v2.2
  rw [if_neg k1, if_pos k2, h2]
  simp only [Option.bind_some, h3]
  exact ⟨_, rfl⟩
 by_cases k3 : wr .u8 (min v1.1 255) = 3
 ·obtain ⟨v2, h2, l2⟩ := ints_tot v1.2 (by omega) 6
  rw [if_neg k1, if_neg k2, if_pos k3, h2]
  simp only [Option.bind_some]
  exact ⟨_, rfl⟩
 rw [if_neg k1, if_neg k2, if_neg k3]
 obtain ⟨b2, hb2⟩ : ∃ b2, (if (wr .u8 (min v1.1 255)) = 4 then some ((wr .u8 (min v1.1 255)) == 4) else if (wr .u8 (min v1.1 255)) = 5 then some ((wr .u8 (min v1.1 255)) == 5) else some ((wr .u8 (min v1.1 255)) == 6)) = some b2 := by
  split
  ·exact ⟨_, rfl⟩
  ·split <;> exact ⟨_, rfl⟩
 rw [hb2]
 simp only [Option.bind_some]
 by_cases hb : b2 = true
 ·rw [if_pos hb]
  obtain ⟨v2, h2, l2⟩ := zej v1.2
  obtain ⟨v3, h3, l3⟩ := zej v2.2
  simp only [h2, h3, Option.bind_some]
  by_cases k4 : wr .u8 (min v1.1 255) = 4
  ·obtain ⟨v4, h4, l4⟩ := zej v3.2
   obtain ⟨v5, h5, l5⟩ := zej ⟨v4.2.fB, v4.2.fOk⟩
   rw [if_pos k4, h4]
   simp only [Option.bind_some, h5]
   exact ⟨_, rfl⟩
  ·obtain ⟨v5, h5, l5⟩ := zej ⟨v3.2.fB, v3.2.fOk⟩
   rw [if_neg k4]
   simp only [Option.bind_some, h5]
   exact ⟨_, rfl⟩
 ·rw [if_neg hb]
  exact ⟨_, rfl⟩
theorem read_tot (s : List UInt8) : ∃ r, zdl s = some r := by
 rw [zdl]
 by_cases h : (s.length : Int) > 1024
 ·rw [if_pos h]; exact ⟨_, rfl⟩
 rw [if_neg h]
 obtain ⟨x, hx⟩ := command_tot ⟨zjf s, true⟩ (by simp [zjf]; omega)
 rw [hx]
 simp only [Option.bind_some]
 by_cases hc : (¬ (x.2.fOk = true)) \/ ((x.2.fB.length : Int) > 0)
 ·rw [if_neg (fun h => h hc)]
  simp only [Option.bind_some]
  rw [if_pos (.inl hc)]
  exact ⟨_, rfl⟩
 ·rw [if_pos hc]
  obtain ⟨e, he, _⟩ := cmd_tot x.1
  rw [he]
  simp only [Option.bind_some]
  split <;> exact ⟨_, rfl⟩
def cmdsS : List (List UInt8) -> Option (List TCommand)
 | [] => some []
 | s :: l => match zdl s with
  | some (c, e) => if e = 0 then (cmdsS l).map (c :: ·) else none
  | none => none
theorem cmds_len : ∀ (l : List (List UInt8)) (cs : List TCommand), cmdsS l = some cs -> cs.length = l.length := by
 intro l
 induction l with
 | nil => intro cs h; simp [cmdsS] at h; simp [<- h]
 | cons s l ih =>
  intro cs h
  obtain ⟨⟨c, e⟩, hr⟩ := read_tot s
  simp only [cmdsS, hr] at h
  split at h
  ·obtain ⟨ds, hd, rfl⟩ := Option.map_eq_some_iff.1 h
   simp [ih ds hd]
  ·cases h
theorem cmds_loop : ∀ (l : List (List UInt8)) (acc : List TCommand), acc.length + l.length < 1000000 -> zca l acc = some (match cmdsS l with | some cs => .inr (acc ++ cs) | none => .inl ([], 8)) := by
 intro l
 induction l with
 | nil => intro acc _; simp [zg1, cmdsS]
 | cons s l ih =>
  intro acc h
  simp only [List.length_cons] at h
  obtain ⟨⟨c, e⟩, hr⟩ := read_tot s
  rw [zg2, hr]
  simp only [Option.bind_some, cmdsS, hr]
  by_cases he : e = 0
  ·rw [if_neg (by simpa using he), if_pos (by simp; omega), ih _ (by simp; omega), if_pos he]
   cases cmdsS l <;> simp
  ·rw [if_pos he, if_neg he]
theorem cmds_eq (l : List (List UInt8)) : zdk l = some (if (l.length : Int) > 200 then (([], 4) : List TCommand × Int) else match cmdsS l with | some cs => (cs, 0) | none => ([], 8)) := by
 rw [zdk]
 by_cases h : (l.length : Int) > 200
 ·rw [if_pos h, if_pos h]
 ·rw [if_neg h, if_neg h, cmds_loop l [] (by simp; omega)]
  cases cmdsS l <;> rfl
def stp (g : Int) (s : TSkeen) (c : TCommand) : TSkeen × List TMessage := match zbk s g c with
 | some r => if r.2.2 = 0 then (r.1, r.2.1) else (s, [])
 | none => (s, [])
theorem stp_ok {g : Int} {s : TSkeen} {c : TCommand} (h : V s) : ∃ r, zbk s g c = some r /\ V (stp g s c).1 /\ s.Clock <= (stp g s c).1.Clock /\ (∃ d : List TStamp, (stp g s c).1.Done = s.Done ++ d /\ d.length = (stp g s c).2.length) /\
  ((¬ r.2.2 = 0 /\ stp g s c = (s, [])) \/ (r.2.2 = 0 /\ stp g s c = (r.1, r.2.1))) := by
 rcases apply_ok s g c h with ⟨e, he, ha, _⟩ | ⟨W, ck, ws, W', _, ha, hV, hck, _⟩
 ·have : stp g s c = (s, []) := by simp only [stp, ha, if_neg he]
  rw [this]
  exact ⟨_, ha, h, Int.le_refl _, ⟨[], by simp, rfl⟩, .inl ⟨he, rfl⟩⟩
 ·have : stp g s c = (⟨ck, W', s.Done ++ ws.map stW⟩, ws.map TWait.Message) := by simp only [stp, ha, if_true]
  rw [this]
  exact ⟨_, ha, hV, hck, ⟨ws.map stW, rfl, by simp⟩, .inr ⟨rfl, rfl⟩⟩
def fin (g : Int) : TSkeen -> List TCommand -> TSkeen
 | s, [] => s
 | s, c :: l => fin g (stp g s c).1 l
def outs (g : Int) : TSkeen -> List TCommand -> List TMessage
 | _, [] => []
 | s, c :: l => (stp g s c).2 ++ outs g (stp g s c).1 l
def tms (g : Int) : TSkeen -> List TCommand -> List Torder_given
 | _, [] => []
 | s, c :: l => (if ((stp g s c).1.Waits.length : Int) > (s.Waits.length : Int) then [⟨(stp g s c).1.Clock, c.Message⟩] else []) ++ tms g (stp g s c).1 l
theorem fin_v (g : Int) : ∀ (l : List TCommand) (s : TSkeen), V s -> V (fin g s l) /\ s.Clock <= (fin g s l).Clock /\ ∃ d : List TStamp, (fin g s l).Done = s.Done ++ d /\ d.length = (outs g s l).length := by
 intro l
 induction l with
 | nil => intro s h; exact ⟨h, Int.le_refl _, [], by simp [fin], rfl⟩
 | cons c l ih =>
  intro s h
  obtain ⟨r, _, h1, h2, ⟨d, h3, h4⟩, _⟩ := stp_ok (g := g) (c := c) h
  obtain ⟨k1, k2, e, k3, k4⟩ := ih _ h1
  exact ⟨k1, Int.le_trans h2 k2, d ++ e, by rw [fin, k3, h3, List.append_assoc], by simp [outs, h4, k4]⟩
theorem tms_len (g : Int) : ∀ (l : List TCommand) (s : TSkeen), (tms g s l).length <= l.length := by
 intro l
 induction l with
 | nil => intro s; simp [tms]
 | cons c l ih =>
  intro s
  have := ih (stp g s c).1
  rw [tms]
  split <;> simp <;> omega
theorem playP_loop (g : Int) : ∀ (l : List TCommand) (s : TSkeen) (out : List TMessage), V s -> out.length = s.Done.length -> zbb g l out s.Clock s.Waits s.Done = some (out ++ outs g s l, (fin g s l).Clock, (fin g s l).Waits, (fin g s l).Done) := by
 intro l
 induction l with
 | nil => intro s out _ _; simp [zbb, outs, fin]
 | cons c l ih =>
  intro s out h ho
  obtain ⟨r, hr, h1, h2, ⟨d, h3, h4⟩, h5⟩ := stp_ok (g := g) (c := c) h
  have hld := h1.ld
  have hlo : out.length + (stp g s c).2.length = (stp g s c).1.Done.length := by rw [h3, ho]; simp [h4]
  rw [zbb]
  have hr' : zbk ⟨s.Clock, s.Waits, s.Done⟩ g c = some r := hr
  rw [hr']
  simp only [Option.bind_some, fin, outs]
  rcases h5 with ⟨he, hs⟩ | ⟨he, hs⟩
  ·rw [hs] at h1 hlo ⊢
   rw [if_pos he]
   simp only [Option.bind_some, zf8]
   have hlo2 : out.length <= 200 := by have := h.ld; omega
   rw [if_pos (by simp; omega)]
   simp only [Option.bind_some]
   have := ih s (out ++ []) h1 (by simpa using hlo)
   simpa using this
  ·rw [hs] at h1 hlo ⊢
   rw [if_neg (by simpa using he)]
   simp only [Option.bind_some, zf8]
   have hl3 : out.length + r.2.1.length = r.1.Done.length := hlo
   have hl4 := h1.ld
   have hl4 : r.1.Done.length <= 200 := hl4
   rw [if_pos (by omega)]
   simp only [Option.bind_some]
   have := ih r.1 (out ++ r.2.1) h1 (by simpa using hlo)
   simpa [List.append_assoc] using this
theorem playT_loop (g : Int) : ∀ (l : List TCommand) (s : TSkeen) (out : List Torder_given), V s -> out.length + l.length < 1000000 -> zb7 g l out s.Clock s.Waits s.Done = some (out ++ tms g s l, (fin g s l).Clock, (fin g s l).Waits, (fin g s l).Done) := by
 intro l
 induction l with
 | nil => intro s out _ _; simp [zb7, tms, fin]
 | cons c l ih =>
  intro s out h ho
  simp only [List.length_cons] at ho
  obtain ⟨r, hr, h1, h2, _, h5⟩ := stp_ok (g := g) (c := c) h
  rw [zb7]
  have hr' : zbk ⟨s.Clock, s.Waits, s.Done⟩ g c = some r := hr
  rw [hr']
  simp only [Option.bind_some, fin, tms]
  rcases h5 with ⟨he, hs⟩ | ⟨he, hs⟩
  ·rw [hs] at h1 ⊢
   rw [if_pos he]
   simp only [Option.bind_some, zes]
   rw [if_neg (by omega), if_neg (by omega)]
   simp only [Option.bind_some]
   have := ih s out h1 (by omega)
   simpa using this
  ·rw [hs] at h1 ⊢
   rw [if_neg (by simpa using he)]
   simp only [Option.bind_some, zes]
   by_cases hw : (r.1.Waits.length : Int) > (s.Waits.length : Int)
   ·rw [if_pos hw, if_pos hw, if_pos (by simp; omega)]
    simp only [Option.bind_some]
    have := ih r.1 (out ++ [⟨r.1.Clock, c.Message⟩]) h1 (by simp; omega)
    simpa [List.append_assoc] using this
   ·rw [if_neg hw, if_neg hw]
    simp only [Option.bind_some]
    have := ih r.1 out h1 (by omega)
    simpa using this
theorem zkc : V ⟨0, [], []⟩ := ⟨by decide, by decide, by decide, by decide, ⟨by simp, by simp, by simp⟩, ⟨by simp, by simp [IdsUp]⟩, by simp⟩
def askS (g : Int) (l : List (List UInt8)) : Int := if g < 0 \/ g >= 4 then 2 else if (l.length : Int) > 200 then 4 else if cmdsS l = none then 8 else 0
theorem twin_v {s : TSkeen} (h : V s) : zcd s = some s := twin_sk s (by have := h.lw; omega) (by have := h.ld; omega) (fun w hw => by have := (h.w.1 w hw).1.groups; omega)
theorem play_eq (g : Int) (l : List (List UInt8)) : (∃ e, e ≠ 0 /\ askS g l = e /\ zdy g l = some (zSk, [], e)) \/
  ∃ cs, askS g l = 0 /\ cmdsS l = some cs /\ l.length <= 200 /\ zdy g l = some (fin g zSk cs, outs g zSk cs, 0) := by
 rw [zdy, zex]
 unfold askS
 by_cases hg : g < 0 \/ g >= 4
 ·rw [if_pos hg, if_pos hg]; exact .inl ⟨2, by omega, rfl, rfl⟩
 rw [if_neg hg, if_neg hg, cmds_eq]
 by_cases hl : (l.length : Int) > 200
 ·rw [if_pos hl, if_pos hl]; exact .inl ⟨4, by omega, rfl, rfl⟩
 rw [if_neg hl, if_neg hl]
 cases hc : cmdsS l with
 | none => exact .inl ⟨8, by omega, rfl, rfl⟩
 | some cs =>
  right
  refine ⟨cs, by simp, rfl, by omega, ?_⟩
  simp only [Option.bind_some, not_true_eq_false, if_false]
  have h1 := playP_loop g cs zSk [] zkc rfl
  have h1 : zbb g cs [] 0 [] [] = _ := h1
  have h2 := twin_v (fin_v g cs zSk zkc).1
  rw [zed]
  simp only [Option.bind_some, h1]
  have h2 : zcd ⟨(fin g zSk cs).Clock, (fin g zSk cs).Waits, (fin g zSk cs).Done⟩ = _ := h2
  rw [h2]
  simp
end Go.Proofs
end
section
namespace Go.Proofs
open Go.Tm
set_option linter.unusedSimpArgs false
set_option linter.unusedVariables false
theorem eqS_loop (b : List TStamp) : ∀ (l : List TStamp) (n : Nat), n + l.length = b.length -> zal b l n = some (if l = b.drop n then .inr () else .inl false) := by
 intro l
 induction l with
 | nil => intro n h; simp [zal]; simp at h; omega
 | cons y l ih =>
  intro n h
  simp only [List.length_cons] at h
  have hn : n < b.length := by omega
  have hg : b.getD n default = b[n] := by simp [List.getD, List.getElem?_eq_getElem hn]
  have hd := List.drop_eq_getElem_cons hn
  rw [zal, if_pos hn, hg]
  generalize b[n] = z at hd
  rw [hd]
  have hz : (y.Time = z.Time /\ y.Id = z.Id) ↔ y = z := by
   obtain ⟨y1, y2⟩ := y
   obtain ⟨z1, z2⟩ := z
   simp
  by_cases hy : y = z
  ·rw [if_neg (by simpa using hz.2 hy), ih (n + 1) (by omega)]
   simp only [hy, List.cons.injEq, true_and]
  ·rw [if_pos (fun h => hy (hz.1 h))]
   simp only [hy, List.cons.injEq, false_and, if_false]
theorem eqS_eq (a b : List TStamp) : zbn a b = some (decide (a = b)) := by
 rw [zbn]
 by_cases h : (a.length : Int) = (b.length : Int)
 ·rw [if_neg (by simpa using h), eqS_loop b a 0 (by omega), List.drop_zero]
  by_cases hab : a = b <;> simp [hab]
 ·rw [if_pos h]
  have : a ≠ b := fun hh => h (by rw [hh])
  simp [this]
theorem sameW_eq (a b : TWait) : zdj a b = some (decide (a = b)) := by
 rw [zdj, sm_eq]
 obtain ⟨a1, a2, a3⟩ := a
 obtain ⟨b1, b2, b3⟩ := b
 by_cases h : a1 = b1 <;> by_cases h2 : a2 = b2 <;> by_cases h3 : a3 = b3 <;> simp [h, h2, h3]
theorem eqW_loop (b : List TWait) : ∀ (l : List TWait) (n : Nat), n + l.length = b.length -> za6 b zdj l n = some (if l = b.drop n then .inr () else .inl false) := by
 intro l
 induction l with
 | nil => intro n h; simp [za6]; simp at h; omega
 | cons y l ih =>
  intro n h
  simp only [List.length_cons] at h
  have hn : n < b.length := by omega
  have hg : b.getD n default = b[n] := by simp [List.getD, List.getElem?_eq_getElem hn]
  have hd := List.drop_eq_getElem_cons hn
  rw [za6, if_pos hn, hg, sameW_eq]
  generalize b[n] = z at hd
  rw [hd]
  simp only [Option.bind_some]
  by_cases hy : y = z
  ·rw [if_neg (by simpa using hy), ih (n + 1) (by omega)]
   simp only [hy, List.cons.injEq, true_and]
  ·rw [if_pos (by simpa using hy)]
   simp only [hy, List.cons.injEq, false_and, if_false]
theorem eqW_eq (a b : List TWait) : zb6 a b zdj = some (decide (a = b)) := by
 rw [zb6]
 by_cases h : (a.length : Int) = (b.length : Int)
 ·rw [if_neg (by simpa using h), eqW_loop b a 0 (by omega), List.drop_zero]
  by_cases hab : a = b <;> simp [hab]
 ·rw [if_pos h]
  have : a ≠ b := fun hh => h (by rw [hh])
  simp [this]
theorem sks_eq (a b : TSkeen) : zgj a b = some (decide (a = b)) := by
 rw [zgj, eqS_eq, eqW_eq]
 obtain ⟨a1, a2, a3⟩ := a
 obtain ⟨b1, b2, b3⟩ := b
 by_cases h : a1 = b1 <;> by_cases h2 : a2 = b2 <;> by_cases h3 : a3 = b3 <;> simp [h, h2, h3]
theorem times_eq (g : Int) (l : List (List UInt8)) : (∃ e, e ≠ 0 /\ askS g l = e /\ zdx g l = some ([], e)) \/
  ∃ cs, askS g l = 0 /\ cmdsS l = some cs /\ l.length <= 200 /\ zdx g l = some (tms g zSk cs, 0) := by
 rw [zdx, zem]
 unfold askS
 by_cases hg : g < 0 \/ g >= 4
 ·rw [if_pos hg, if_pos hg]; exact .inl ⟨2, by omega, rfl, rfl⟩
 rw [if_neg hg, if_neg hg, cmds_eq]
 by_cases hl : (l.length : Int) > 200
 ·rw [if_pos hl, if_pos hl]; exact .inl ⟨4, by omega, rfl, rfl⟩
 rw [if_neg hl, if_neg hl]
 cases hc : cmdsS l with
 | none => exact .inl ⟨8, by omega, rfl, rfl⟩
 | some cs =>
  right
  have hcl := cmds_len l cs hc
  refine ⟨cs, by simp, rfl, by omega, ?_⟩
  simp only [Option.bind_some, not_true_eq_false, if_false]
  have h1 := playT_loop g cs zSk [] zkc (by simp; omega)
  have h1 : zb7 g cs [] 0 [] [] = _ := h1
  have h2 := twin_v (fin_v g cs zSk zkc).1
  rw [zed]
  simp only [Option.bind_some, h1]
  have h2 : zcd ⟨(fin g zSk cs).Clock, (fin g zSk cs).Waits, (fin g zSk cs).Done⟩ = _ := h2
  rw [h2]
  simp
def cssS : List (List (List UInt8)) -> Option (List (List TCommand))
 | [] => some []
 | l :: r => if l.length <= 200 then match cmdsS l with
   | some cs => (cssS r).map (cs :: ·)
   | none => none
  else none
def tabS : Nat -> List (List TCommand) -> List (List Torder_given)
 | _, [] => []
 | n, cs :: r => tms (n : Int) zSk cs :: tabS (n + 1) r
theorem tabS_len : ∀ (r : List (List TCommand)) (n : Nat), (tabS n r).length = r.length
 | [], _ => rfl
 | _ :: r, n => by simp [tabS, tabS_len r]
theorem tabS_get : ∀ (r : List (List TCommand)) (n i : Nat) (h : i < r.length), (tabS n r).getD i default = tms ((n + i : Nat) : Int) zSk r[i]
 | cs :: r, n, 0, _ => by simp [tabS]
 | cs :: r, n, i + 1, h => by
  have h' : i < r.length := by simpa using h
  have := tabS_get r (n + 1) i h'
  simp only [tabS, List.getD_cons_succ, List.getElem_cons_succ, this]
  congr 2
  omega
theorem zn3 : ∀ (r : List (List (List UInt8))) (css : List (List TCommand)), cssS r = some css -> css.length = r.length
 | [], css, h => by simp [cssS] at h; simp [<- h]
 | l :: r, css, h => by
  simp only [cssS] at h
  split at h
  ·split at h
   ·obtain ⟨d, hd, rfl⟩ := Option.map_eq_some_iff.1 h
    simp [zn3 r d hd]
   ·cases h
  ·cases h
theorem cssS_get : ∀ (r : List (List (List UInt8))) (css : List (List TCommand)), cssS r = some css -> ∀ (i : Nat) (h : i < r.length) (h' : i < css.length), r[i].length <= 200 /\ cmdsS r[i] = some css[i]
 | [], css, h, i, hi, _ => by simp at hi
 | l :: r, css, h, i, hi, hi' => by
  simp only [cssS] at h
  split at h
  ·rename_i hl
   split at h
   ·rename_i cs hc
    obtain ⟨d, hd, rfl⟩ := Option.map_eq_some_iff.1 h
    cases i with
    | zero => exact ⟨hl, hc⟩
    | succ i => exact cssS_get r d hd i (by simpa using hi) (by simpa using hi')
   ·cases h
  ·cases h
theorem of_loop : ∀ (r : List (List (List UInt8))) (n : Nat) (acc : List (List Torder_given)), n + r.length <= 4 -> acc.length <= n ->
  (∃ e, e ≠ 0 /\ zcw r n acc = some (.inl ([], e))) \/ ∃ css, cssS r = some css /\ zcw r n acc = some (.inr (acc ++ tabS n css))
 | [], n, acc, _, _ => .inr ⟨[], rfl, by simp [zht, tabS]⟩
 | l :: r, n, acc, hn, ha => by
  simp only [List.length_cons] at hn
  rw [zhu]
  rcases times_eq (n : Int) l with ⟨e, he, _, ht⟩ | ⟨cs, _, hc, hl, ht⟩
  ·rw [ht]
   exact .inl ⟨e, he, by simp [he]⟩
  ·rw [ht]
   simp only [Option.bind_some, not_true_eq_false, if_false]
   rw [if_pos (by simp; omega)]
   rcases of_loop r (n + 1) (acc ++ [tms (n : Int) zSk cs]) (by omega) (by simp; omega) with h | ⟨css, h1, h2⟩
   ·exact .inl h
   ·refine .inr ⟨cs :: css, by simp [cssS, hl, hc, h1], ?_⟩
    rw [h2, tabS]; simp
theorem of_eq (r : List (List (List UInt8))) : (∃ e, e ≠ 0 /\ zg8 r = some ([], e)) \/ ∃ css, r.length <= 4 /\ cssS r = some css /\ zg8 r = some (tabS 0 css, 0) := by
 rw [zg8]
 by_cases h : (r.length : Int) > 4
 ·rw [if_pos h]; exact .inl ⟨4, by omega, rfl⟩
 ·rw [if_neg h]
  rcases of_loop r 0 [] (by omega) (by simp) with ⟨e, he, h1⟩ | ⟨css, h1, h2⟩
  ·rw [h1]; exact .inl ⟨e, he, rfl⟩
  ·rw [h2]; exact .inr ⟨css, by omega, h1, rfl⟩
theorem ixG_loop (m : TMessage) : ∀ (l : List Torder_given) (n : Nat), (∃ (k : Nat) (h : k < l.length), l[k].fM = m /\ za3 (fun x0 => zbl x0 m) l n = some (.inl ((n + k : Nat) : Int))) \/ ((∀ e ∈ l, e.fM ≠ m) /\ za3 (fun x0 => zbl x0 m) l n = some (.inr ())) := by
 intro l
 induction l with
 | nil => intro n; exact .inr ⟨by simp, rfl⟩
 | cons y l ih =>
  intro n
  rw [za3]
  simp only [zbl, sm_eq, Option.bind_some]
  by_cases h : y.fM = m
  ·rw [if_pos (by simpa using h)]; exact .inl ⟨0, by simp, h, rfl⟩
  ·rw [if_neg (by simpa using h)]
   have ih := ih (n + 1)
   simp only [zbl, sm_eq, Option.bind_some] at ih
   rcases ih with ⟨k, hk, h1, h2⟩ | ⟨h1, h2⟩
   ·exact .inl ⟨k + 1, by simp; omega, by simpa using h1, by rw [h2]; congr 3; omega⟩
   ·refine .inr ⟨fun w hw => ?_, h2⟩
    rcases List.mem_cons.1 hw with rfl | hw
    ·exact h
    ·exact h1 w hw
theorem final_loop (T : List (List Torder_given)) (m : TMessage) : ∀ (gs : List Int) (n : Int), (∀ g ∈ gs, 0 <= g) ->
  zbd T m gs n = some (.inl (0, false)) \/ ∃ n', zbd T m gs n = some (.inr n') /\ n <= n' /\
   (∀ g ∈ gs, g < (T.length : Int) /\ ∃ e ∈ T.getD g.toNat default, e.fM = m /\ e.fTime <= n') /\ (n' = n \/ ∃ g ∈ gs, ∃ e ∈ T.getD g.toNat default, e.fM = m /\ e.fTime = n') := by
 intro gs
 induction gs with
 | nil => intro n _; exact .inr ⟨n, rfl, Int.le_refl _, by simp, .inl rfl⟩
 | cons g gs ih =>
  intro n h0
  have hg := h0 g (List.mem_cons_self ..)
  rw [zbd]
  by_cases h1 : g >= (T.length : Int)
  ·rw [if_pos h1]; exact .inl rfl
  rw [if_neg h1, if_pos ⟨hg, by omega⟩, zbg]
  rcases ixG_loop m (T.getD g.toNat default) 0 with ⟨k, hk, e1, e2⟩ | ⟨e1, e2⟩
  ·rw [e2]
   simp only [Option.bind_some, Nat.zero_add]
   rw [if_neg (by omega), if_pos ⟨hg, by omega⟩, if_pos ⟨by omega, by omega⟩, Int.toNat_natCast]
   have hge : (T.getD g.toNat default).getD k default = (T.getD g.toNat default)[k] := by rw [List.getD_eq_getElem?_getD (l := T.getD g.toNat default), List.getElem?_eq_getElem hk]; rfl
   rw [hge]
   rcases ih (max n (T.getD g.toNat default)[k].fTime) (fun x hx => h0 x (List.mem_cons_of_mem _ hx)) with h | ⟨n', h2, h3, h4, h5⟩
   ·exact .inl h
   ·refine .inr ⟨n', h2, by omega, fun x hx => ?_, ?_⟩
    ·rcases List.mem_cons.1 hx with rfl | hx
     ·exact ⟨by omega, _, List.getElem_mem hk, e1, by omega⟩
     ·exact h4 x hx
    ·rcases h5 with h5 | ⟨x, hx, h5⟩
     ·by_cases hmx : n <= (T.getD g.toNat default)[k].fTime
      ·exact .inr ⟨g, List.mem_cons_self .., _, List.getElem_mem hk, e1, by omega⟩
      ·exact .inl (by omega)
     ·exact .inr ⟨x, List.mem_cons_of_mem _ hx, h5⟩
  ·rw [e2]
   simp only [Option.bind_some]
   rw [if_pos (by omega)]; exact .inl rfl
def fT (T : List (List Torder_given)) (m : TMessage) : Int × Bool := (zd2 T m).getD (0, false)
theorem fT_eq (T : List (List Torder_given)) (m : TMessage) (h : ∀ g ∈ m.Groups, 0 <= g) : zd2 T m = some (fT T m) /\ (∀ n, fT T m = (n, true) ->
  (∀ g ∈ m.Groups, g < (T.length : Int) /\ ∃ e ∈ T.getD g.toNat default, e.fM = m /\ e.fTime <= n) /\ 0 <= n /\ (n = 0 \/ ∃ g ∈ m.Groups, ∃ e ∈ T.getD g.toNat default, e.fM = m /\ e.fTime = n)) := by
 unfold fT
 rw [zd2]
 rcases final_loop T m m.Groups 0 h with h1 | ⟨n', h1, h2, h3, h4⟩
 ·rw [h1]
  refine ⟨rfl, fun n hn => ?_⟩
  have := congrArg Prod.snd hn
  simp at this
 ·rw [h1]
  refine ⟨rfl, fun n hn => ?_⟩
  have : n' = n := congrArg Prod.fst hn
  subst this
  exact ⟨h3, h2, h4⟩
end Go.Proofs
end
section
namespace Go.Proofs
open Go.Tm
set_option linter.unusedSimpArgs false
set_option linter.unusedVariables false
theorem tms_le (g : Int) (cs : List TCommand) (s : TSkeen) (h : cs.length <= 200) : (tms g s cs).length <= 200 := Nat.le_trans (tms_len g cs s) h
theorem concat1 : ∀ (T : List (List Torder_given)) (n : Int), 0 <= n -> n + 1000 * T.length <= 1000000000 -> (∀ x ∈ T, x.length <= 1000) -> ∃ n', zaa T n = some n' /\ 0 <= n' /\ n' <= n + 1000 * T.length
 | [], n, h0, _, _ => ⟨n, rfl, h0, by simp⟩
 | x :: T, n, h0, h1, h2 => by
  have hx := h2 x (List.mem_cons_self ..)
  simp only [List.length_cons] at h1 ⊢
  rw [zaa, wr_ok _ (by omega), if_neg (by omega)]
  obtain ⟨n', e1, e2, e3⟩ := concat1 T (n + (x.length : Int)) (by omega) (by omega) (fun y hy => h2 y (List.mem_cons_of_mem _ hy))
  exact ⟨n', e1, e2, by omega⟩
theorem concat2 : ∀ (T : List (List Torder_given)) (acc : List Torder_given), acc.length + 1000 * T.length < 1000000 -> (∀ x ∈ T, x.length <= 1000) -> za9 T acc = some (acc ++ T.flatten)
 | [], acc, _, _ => by simp [zci]
 | x :: T, acc, h, h2 => by
  have hx := h2 x (List.mem_cons_self ..)
  simp only [List.length_cons] at h
  rw [zcj, if_pos (by omega), concat2 T _ (by simp; omega) (fun y hy => h2 y (List.mem_cons_of_mem _ hy))]
  simp
theorem concat_eq (T : List (List Torder_given)) (h : T.length <= 4) (h2 : ∀ x ∈ T, x.length <= 200) : zb3 T = some T.flatten := by
 obtain ⟨n', e1, e2, e3⟩ := concat1 T 0 (by omega) (by omega) (fun x hx => Nat.le_trans (h2 x hx) (by omega))
 rw [zb3, e1]
 simp only [Option.bind_some]
 rw [if_pos ⟨e2, by omega⟩, concat2 T [] (by simp; omega) (fun x hx => Nat.le_trans (h2 x hx) (by omega))]
 simp
theorem flat_len : ∀ (T : List (List Torder_given)), (∀ x ∈ T, x.length <= 200) -> T.flatten.length <= 200 * T.length
 | [], _ => by simp
 | x :: T, h => by
  have := flat_len T fun y hy => h y (List.mem_cons_of_mem _ hy)
  have := h x (List.mem_cons_self ..)
  rw [List.flatten_cons, List.length_append, List.length_cons]; omega
def OneS (l : List Torder_given) : Prop := ∀ e ∈ l, ∀ e' ∈ l, e.fM.Id = e'.fM.Id -> e.fM = e'.fM
theorem mget_mputM (k i : Int) (v : TMessage) : ∀ m : List (Int × TMessage), mget k (mput i v m) = if k = i then some v else mget k m := by
 intro m
 induction m with
 | nil => simp [mput, mget]
 | cons x m ih =>
  rw [mput]
  by_cases h : i = x.1
  ·rw [if_pos h]; simp only [mget]
   by_cases hk : k = i
   ·simp [hk]
   ·simp [hk, show k ≠ x.1 from fun e => hk (e.trans h.symm)]
  ·rw [if_neg h]; simp only [mget]
   by_cases hx : k = x.1
   ·simp [hx, show ¬ x.1 = i from fun e => h e.symm]
   ·rw [if_neg hx, ih, if_neg hx]
theorem one_loop (L : List Torder_given) (hL : L.length < 1000000) : ∀ (fu k : Nat) (m : List (Int × TMessage)), L.length - k < fu -> k <= L.length -> (∀ e ∈ L.take k, mget e.fM.Id m = some e.fM) ->
  zb2 L fu m (k : Int) = some (.inl false) \/ (zb2 L fu m (k : Int) = some (.inr ()) /\ OneS L) := by
 intro fu
 induction fu with
 | zero => intro k m h; omega
 | succ fu ih =>
  intro k m h hk hm
  rw [zb2]
  by_cases hlt : k < L.length
  ·have hg : L.getD (k : Int).toNat default = L[k] := by rw [Int.toNat_natCast]; simp [List.getD, List.getElem?_eq_getElem hlt]
   rw [if_pos (by omega), if_pos (by omega), hg, wr_ok _ (by omega)]
   have hnext : (∀ y, mget L[k].fM.Id m = some y -> y = L[k].fM) -> ∀ e ∈ L.take (k + 1), mget e.fM.Id (mput L[k].fM.Id L[k].fM m) = some e.fM := by
    intro hy e he
    rw [List.take_succ_eq_append_getElem hlt] at he
    rw [mget_mputM]
    rcases List.mem_append.1 he with he | he
    ·by_cases hid : e.fM.Id = L[k].fM.Id
     ·rw [if_pos hid]
      have := hm e he
      rw [hid] at this
      rw [hy _ this]
     ·rw [if_neg hid]; exact hm e he
    ·simp at he; subst he; simp
   cases hq : mget L[k].fM.Id m with
   | none =>
    simp only [Option.isSome_none, Bool.false_eq_true, if_false, Option.bind_some, false_and]
    exact ih (k + 1) _ (by omega) (by omega) (hnext (by rw [hq]; intro y hy; cases hy))
   | some x =>
    simp only [Option.isSome_some, if_true, Option.getD_some, sm_eq, Option.bind_some, true_and]
    by_cases hx : x = L[k].fM
    ·rw [if_neg (by simpa using hx)]
     exact ih (k + 1) _ (by omega) (by omega) (hnext (by rw [hq]; intro y hy; cases hy; exact hx))
    ·rw [if_pos (by simpa using hx)]; exact .inl rfl
  ·rw [if_neg (by omega)]
   refine .inr ⟨rfl, fun e he e' he' hid => ?_⟩
   have ht : L.take k = L := List.take_of_length_le (by omega)
   rw [ht] at hm
   have h1 := hm e he
   have h2 := hm e' he'
   rw [hid] at h1
   rw [h1] at h2
   exact Option.some.inj h2
theorem one_eq (T : List (List Torder_given)) (h : T.length <= 4) (h2 : ∀ x ∈ T, x.length <= 200) : ∃ b, ze7 T = some b /\ (b = true -> OneS T.flatten) := by
 have hl := flat_len T h2
 rw [ze7, concat_eq T h h2]
 simp only [Option.bind_some]
 rcases one_loop T.flatten (by omega) (T.flatten.length + 1) 0 [] (by omega) (by omega) (by simp) with h1 | ⟨h1, h3⟩
 ·have h1 : zb2 T.flatten (T.flatten.length + 1) [] 0 = _ := h1
  rw [h1]; exact ⟨false, rfl, by simp⟩
 ·have h1 : zb2 T.flatten (T.flatten.length + 1) [] 0 = _ := h1
  rw [h1]; exact ⟨true, rfl, fun _ => h3⟩
theorem del_none (c0 : Tskeen_clock) {W : List TWait} (D : List TStamp) (hl : W.length <= 200) (hm : ∀ y l, W = y :: l -> (minW y l).Final = false) (fu : Nat) (hf : 0 < fu) (M : List TMessage) : zak c0 fu W D M = some (W, D, M) := by
 obtain ⟨fu, rfl⟩ : ∃ f, fu = f + 1 := ⟨fu - 1, by omega⟩
 rw [zak]
 cases hW : W with
 | nil => simp
 | cons y l =>
  rw [if_pos (by simp only [List.length_cons]; omega), minw_eq y l (by rw [hW] at hl; simp at hl; omega)]
  simp only [Option.bind_some, hm y l hW, Bool.false_eq_true, not_false_eq_true, if_true]
theorem stp_final {g : Int} {s : TSkeen} {c : TCommand} (h : V s) (k2 : c.Kind = 2) (hne : s ≠ (stp g s c).1) : ∃ w ∈ s.Waits, w.Message.Id = c.Id := by
 apply Decidable.byContradiction
 intro hno
 apply hne
 have hj := h.j
 have hlw := h.lw
 have hld := h.ld
 have htw : zcd s = some s := twin_sk s (by omega) (by omega) (fun w hw => by have := (hj.w.1 w hw).1.groups; omega)
 have key : ∀ r, zbk s g c = some r -> r.2.2 = 0 -> r.1 = s := by
  intro r hr h0
  rw [zbk, check_ok h] at hr
  simp only [Option.bind_some, not_true_eq_false, if_false] at hr
  by_cases hg : g < 0 \/ g >= 4
  ·rw [if_pos hg] at hr
   have := Option.some.inj hr
   rw [<- this] at h0; simp at h0
  rw [if_neg hg] at hr
  obtain ⟨e, he, hc⟩ := cmd_tot c
  rw [he] at hr
  simp only [Option.bind_some] at hr
  by_cases he0 : e = 0
  case neg =>
   rw [if_pos he0] at hr
   have := Option.some.inj hr
   rw [<- this] at h0; exact absurd h0 he0
  rw [if_neg (by simpa using he0), htw] at hr
  simp only [Option.bind_some] at hr
  obtain ⟨i1, i2, i3⟩ := (hc he0).2 k2
  rcases final_eq s c.Id c.Time (by omega) hj i1 with ⟨hf, _⟩ | ⟨k, hk, b1, _⟩
  ·have hf : zbo ⟨s⟩ c.Id c.Time = _ := hf
   rw [if_neg (by omega), if_pos k2, hf] at hr
   simp only [Option.bind_some] at hr
   have hd := del_none ⟨s⟩ s.Done hlw h.m (s.Waits.length + 1) (by omega) []
   have hd' : zc1 ⟨⟨s.Clock, s.Waits, s.Done⟩⟩ = some ([], ⟨⟨s.Clock, s.Waits, s.Done⟩⟩) := by
    rw [zc1]
    have hd : zak ⟨⟨s.Clock, s.Waits, s.Done⟩⟩ (s.Waits.length + 1) s.Waits s.Done [] = _ := hd
    simp only [hd, Option.bind_some]
   rw [hd'] at hr
   simp only [Option.bind_some] at hr
   rw [if_neg (by omega)] at hr
   exact (congrArg Prod.fst (Option.some.inj hr)).symm
  ·exact absurd ⟨_, List.getElem_mem hk, b1⟩ hno
 obtain ⟨r, hr, _, _, _, h5⟩ := stp_ok (g := g) (c := c) h
 rcases h5 with ⟨_, hs⟩ | ⟨h0, hs⟩
 ·rw [hs]
 ·rw [hs]; exact (key r hr h0).symm
end Go.Proofs
end
section
namespace Go.Proofs
open Go.Tm
set_option linter.unusedSimpArgs false
set_option linter.unusedVariables false
theorem bind_ite {α β : Type} (c : Prop) [Decidable c] (x d : α) (f : α -> Option β) : Option.bind (if c then some x else some d) f = f (if c then x else d) := by
 split <;> rfl
def risG : Int -> List Int -> Bool
 | _, [] => true
 | k, y :: l => decide (k < y /\ y < 4) && risG y l
theorem risG_len : ∀ (l : List Int) (k : Int), -1 <= k -> risG k l = true -> (l.length : Int) <= 3 - k \/ l = []
 | [], _, _, _ => .inr rfl
 | y :: l, k, hk, h => by
  simp only [risG, Bool.and_eq_true, decide_eq_true_eq] at h
  left
  rcases risG_len l y (by omega) h.2 with h1 | h1
  ·simp only [List.length_cons]; omega
  ·subst h1; simp; omega
theorem pre_getD {L pre l : List Int} {y : Int} (hL : L = pre ++ y :: l) {k : Int} (h0 : pre.getLast? = some k) : L.getD (pre.length - 1) default = k := by
 have hne : pre ≠ [] := by rintro rfl; simp at h0
 have hp : 0 < pre.length := List.length_pos_iff.2 hne
 rw [hL, List.getD_eq_getElem?_getD, List.getElem?_append_left (by omega), <- List.getLast?_eq_getElem?, h0]; rfl
theorem cm_loop (m : TMessage) : ∀ (l pre : List Int) (k : Int) (b : Bool), m.Groups = pre ++ l -> (pre = [] /\ k = -1 \/ 0 <= k /\ pre.getLast? = some k) -> zab m l pre.length b = some (b && risG k l) := by
 intro l
 induction l with
 | nil => intro pre k b _ _; simp [zab, risG]
 | cons y l ih =>
  intro pre k b hm hk
  cases b with
  | false => rw [znr]; rfl
  | true =>
   rw [zab, if_pos rfl, in_eq]
   simp only [Option.bind_some, Bool.true_and]
   have hc : (decide (0 <= y /\ y <= 3) && (((pre.length : Int) == 0) || decide (y > m.Groups.getD (pre.length - 1) default))) = decide (k < y /\ y < 4) := by
    rw [Bool.eq_iff_iff]
    simp only [Bool.and_eq_true, Bool.or_eq_true, decide_eq_true_eq, beq_iff_eq]
    rcases hk with ⟨rfl, rfl⟩ | ⟨h0, hl⟩
    ·simp; omega
    ·have hne : pre ≠ [] := by rintro rfl; simp at hl
     have hp : 0 < pre.length := List.length_pos_iff.2 hne
     rw [pre_getD hm hl]; omega
   rw [hc]
   by_cases h : k < y /\ y < 4
   ·rw [decide_eq_true h]
    have := ih (pre ++ [y]) y true (by rw [hm]; simp) (.inr ⟨by rcases hk with ⟨_, rfl⟩ | ⟨h0, _⟩ <;> omega, by simp⟩)
    rw [List.length_append, List.length_singleton] at this
    rw [this]
    simp [risG, h]
   ·rw [decide_eq_false h, znr]
    simp [risG, h]
def MOk (m : TMessage) : Prop := m.Groups ≠ [] /\ risG (-1) m.Groups = true /\ IdOk m.Id /\ (0 <= m.Topic /\ m.Topic <= 3) /\ m.Key.length <= 16 /\ m.Body.length <= 64
instance (m : TMessage) : Decidable (MOk m) := by unfold MOk IdOk; infer_instance
theorem checkm_eq (m : TMessage) : zar m = some (if MOk m then 0 else 120) := by
 have h := cm_loop m m.Groups [] (-1) ((decide ((m.Groups.length : Int) >= 1)) && (decide ((m.Groups.length : Int) <= 4))) rfl (.inl ⟨rfl, rfl⟩)
 rw [List.length_nil] at h
 rw [zar, h]
 simp only [Option.bind_some, cid_eq, in_eq, bind_ite]
 by_cases hr : risG (-1) m.Groups = true
 ·have hl := risG_len _ _ (by omega) hr
  by_cases hg : m.Groups = []
  ·have : ¬ MOk m := fun h => h.1 hg
   simp [hg, this]
  ·have h1 : 0 < m.Groups.length := List.length_pos_iff.2 hg
   have h4 : (m.Groups.length : Int) <= 4 := by rcases hl with h | h; omega; exact absurd h hg
   have e1 : decide ((m.Groups.length : Int) >= 1) = true := by simp; omega
   have e2 : decide ((m.Groups.length : Int) <= 4) = true := by simpa using h4
   by_cases hi : IdOk m.Id
   ·by_cases ht : 0 <= m.Topic /\ m.Topic <= 3
    ·by_cases hk : m.Key.length <= 16
     ·by_cases hb : m.Body.length <= 64
      ·have : MOk m := ⟨hg, hr, hi, ht, hk, hb⟩
       simp [e1, e2, hr, hi, ht, this]; omega
      ·have : ¬ MOk m := fun h => hb h.2.2.2.2.2
       simp [e1, e2, hr, hi, ht, this]; omega
     ·have : ¬ MOk m := fun h => hk h.2.2.2.2.1
      simp [e1, e2, hr, hi, ht, this]; omega
    ·have : ¬ MOk m := fun h => ht h.2.2.2.1
     simp [e1, e2, hr, hi, ht, this]
   ·have : ¬ MOk m := fun h => hi h.2.2.1
    simp [e1, e2, hr, hi, this]
 ·have : ¬ MOk m := fun h => hr h.2.1
  simp [hr, this]
theorem MsgOk_iff (m : TMessage) : MsgOk m ↔ MOk m := by
 unfold MsgOk
 rw [checkm_eq]
 split <;> simp_all
theorem risG_in : ∀ (l : List Int) (k : Int), -1 <= k -> risG k l = true -> ∀ g ∈ l, 0 <= g /\ g < 4
 | [], _, _, _, g, hg => by cases hg
 | y :: l, k, hk, h, g, hg => by
  simp only [risG, Bool.and_eq_true, decide_eq_true_eq] at h
  rcases List.mem_cons.1 hg with rfl | hg
  ·omega
  ·exact risG_in l y (by omega) h.2 g hg
theorem MsgOk.grp {m : TMessage} (h : MsgOk m) : m.Groups ≠ [] /\ ∀ g ∈ m.Groups, 0 <= g /\ g < 4 := by
 have := (MsgOk_iff m).1 h
 exact ⟨this.1, risG_in _ _ (by omega) this.2.1⟩
def StepOk (T : List (List Torder_given)) (s : TSkeen) (c : TCommand) (s' : TSkeen) : Prop := c.Kind = 2 -> s ≠ s' -> ∃ w ∈ s.Waits, w.Message.Id = c.Id /\ fT T w.Message = (c.Time, true)
def RunOk (T : List (List Torder_given)) (g : Int) : TSkeen -> List TCommand -> Prop
 | _, [] => True
 | s, c :: l => StepOk T s c (stp g s c).1 /\ RunOk T g (stp g s c).1 l
theorem ixW_loop (x : Torder_step) : ∀ (l : List TWait) (n : Nat), (∃ (k : Nat) (h : k < l.length), l[k].Message.Id = x.fC.Id /\ zaq (fun x0 => zcv x0 x) l n = some (.inl ((n + k : Nat) : Int))) \/ (∀ w ∈ l, w.Message.Id ≠ x.fC.Id) := by
 intro l
 induction l with
 | nil => intro n; exact .inr (by simp)
 | cons y l ih =>
  intro n
  rw [zaq]
  simp only [zcv, Option.bind_some]
  by_cases h : y.Message.Id = x.fC.Id
  ·rw [if_pos (by simpa using h)]; exact .inl ⟨0, by simp, h, rfl⟩
  ·rw [if_neg (by simpa using h)]
   have ih := ih (n + 1)
   simp only [zcv, Option.bind_some] at ih
   rcases ih with ⟨k, hk, h1, h2⟩ | h1
   ·exact .inl ⟨k + 1, by simp; omega, by simpa using h1, by rw [h2]; congr 3; omega⟩
   ·refine .inr fun w hw => ?_
    rcases List.mem_cons.1 hw with rfl | hw
    ·exact h
    ·exact h1 w hw
theorem honest1 (T : List (List Torder_given)) {g : Int} {s : TSkeen} {c : TCommand} (h : V s) (out : List TMessage) (b : Bool) : ∃ b', zdu ⟨c, s, (stp g s c).1, out⟩ T b = some (T, b') /\ (b' = true -> b = true /\ StepOk T s c (stp g s c).1) := by
 rw [zdu, sks_eq]
 simp only
 by_cases k2 : c.Kind = 2
 ·simp only [k2, not_true_eq_false, not_false_eq_true, if_true, Option.bind_some, false_or, decide_eq_true_eq]
  by_cases hs : s = (stp g s c).1
  ·rw [if_pos hs]
   exact ⟨b, rfl, fun hb => ⟨hb, fun _ hne => absurd hs hne⟩⟩
  ·rw [if_neg hs, zcq]
   obtain ⟨w, hw, hid⟩ := stp_final h k2 hs
   rcases ixW_loop ⟨c, s, (stp g s c).1, out⟩ s.Waits 0 with ⟨k, hk, e1, e2⟩ | e1
   ·rw [e2]
    simp only [Option.bind_some, Nat.zero_add]
    rw [if_pos ⟨by omega, by omega⟩, Int.toNat_natCast]
    have hg : s.Waits.getD k default = s.Waits[k] := by simp [List.getD, List.getElem?_eq_getElem hk]
    have hm := (h.j.w.1 _ (List.getElem_mem hk)).1
    rw [hg, (fT_eq T s.Waits[k].Message fun x hx => (hm.grp.2 x hx).1).1]
    simp only [Option.bind_some]
    refine ⟨_, rfl, fun hb => ?_⟩
    simp only [Bool.and_eq_true, beq_iff_eq] at hb
    exact ⟨hb.1.1, fun _ _ => ⟨_, List.getElem_mem hk, e1, Prod.ext hb.2 hb.1.2⟩⟩
   ·exact absurd hid (e1 w hw)
 ·rw [if_neg (by simpa using k2)]
  simp only [Option.bind_some]
  rw [if_pos (.inl k2)]
  exact ⟨b, rfl, fun hb => ⟨hb, fun hk => absurd hk k2⟩⟩
theorem playH_loop (T : List (List Torder_given)) (g : Int) : ∀ (cs : List TCommand) (s : TSkeen) (b : Bool), V s -> ∃ b', zbe g cs T b s.Clock s.Waits s.Done = some (T, b', (fin g s cs).Clock, (fin g s cs).Waits, (fin g s cs).Done) /\ (b' = true -> b = true /\ RunOk T g s cs) := by
 intro cs
 induction cs with
 | nil => intro s b _; exact ⟨b, rfl, fun h => ⟨h, trivial⟩⟩
 | cons c cs ih =>
  intro s b h
  obtain ⟨r, hr, h1, _, _, h5⟩ := stp_ok (g := g) (c := c) h
  have hr' : zbk ⟨s.Clock, s.Waits, s.Done⟩ g c = some r := hr
  rw [zbe, hr']
  simp only [Option.bind_some, fin]
  have hst : (if ¬ (r.2.2 = 0) then some (s.Clock, s.Waits, s.Done, []) else some (r.1.Clock, r.1.Waits, r.1.Done, r.2.1)) = some ((stp g s c).1.Clock, (stp g s c).1.Waits, (stp g s c).1.Done, (stp g s c).2) := by
   rcases h5 with ⟨he, hs⟩ | ⟨he, hs⟩
   ·rw [hs, if_pos he]
   ·rw [hs, if_neg (by simpa using he)]
  rw [hst]
  simp only [Option.bind_some]
  obtain ⟨b1, e1, e2⟩ := honest1 T (g := g) (c := c) h (stp g s c).2 b
  have e1 : zdu ⟨c, ⟨s.Clock, s.Waits, s.Done⟩, ⟨(stp g s c).1.Clock, (stp g s c).1.Waits, (stp g s c).1.Done⟩, (stp g s c).2⟩ T b = _ := e1
  rw [e1]
  simp only [Option.bind_some]
  obtain ⟨b2, e3, e4⟩ := ih (stp g s c).1 b1 h1
  exact ⟨b2, e3, fun hb => ⟨(e2 (e4 hb).1).1, (e2 (e4 hb).1).2, (e4 hb).2⟩⟩
theorem playH_eq (T : List (List Torder_given)) (g : Int) (hg : 0 <= g /\ g < 4) (l : List (List UInt8)) (cs : List TCommand) (hl : l.length <= 200) (hc : cmdsS l = some cs) (b : Bool) : ∃ s e b', zdo g l T b = some (s, e, T, b') /\ (b' = true -> b = true /\ RunOk T g zSk cs) := by
 rw [zdo, if_neg (by omega), cmds_eq, if_neg (by omega), hc]
 simp only [Option.bind_some, not_true_eq_false, if_false]
 obtain ⟨b', h1, h2⟩ := playH_loop T g cs zSk b zkc
 have h1 : zbe g cs T b 0 [] [] = _ := h1
 have h3 := twin_v (fin_v g cs zSk zkc).1
 have h3 : zcd ⟨(fin g zSk cs).Clock, (fin g zSk cs).Waits, (fin g zSk cs).Done⟩ = _ := h3
 rw [zed]
 simp only [Option.bind_some, h1, h3]
 exact ⟨_, _, b', rfl, h2⟩
theorem honest_loop (T : List (List Torder_given)) : ∀ (r : List (List (List UInt8))) (css : List (List TCommand)) (n : Nat) (b : Bool), cssS r = some css -> n + r.length <= 4 -> ∃ b', zc9 r n T b = some b' /\ (b' = true -> b = true /\ ∀ (i : Nat) (h : i < css.length), RunOk T ((n + i : Nat) : Int) zSk css[i]) := by
 intro r
 induction r with
 | nil => intro css n b h _; simp [cssS] at h; subst h; exact ⟨b, rfl, fun hb => ⟨hb, by simp⟩⟩
 | cons l r ih =>
  intro css n b h hn
  simp only [List.length_cons] at hn
  simp only [cssS] at h
  split at h
  ·rename_i hl
   split at h
   ·rename_i cs hc
    obtain ⟨d, hd, rfl⟩ := Option.map_eq_some_iff.1 h
    obtain ⟨s, e, b1, e1, e2⟩ := playH_eq T (n : Int) (by omega) l cs hl hc b
    rw [zc9, e1]
    simp only [Option.bind_some]
    obtain ⟨b2, e3, e4⟩ := ih d (n + 1) b1 hd (by omega)
    refine ⟨b2, e3, fun hb => ⟨(e2 (e4 hb).1).1, fun i hi => ?_⟩⟩
    cases i with
    | zero => exact (e2 (e4 hb).1).2
    | succ i =>
     have := (e4 hb).2 i (by simpa using hi)
     rw [show n + (i + 1) = n + 1 + i by omega]
     simpa using this
   ·cases h
  ·cases h
theorem tab_le {r : List (List (List UInt8))} {css : List (List TCommand)} (h : cssS r = some css) (n : Nat) : ∀ x ∈ tabS n css, x.length <= 200 := by
 intro x hx
 obtain ⟨i, hi, rfl⟩ := List.getElem_of_mem hx
 have hi' : i < css.length := by rw [tabS_len] at hi; exact hi
 have e := tabS_get css n i hi'
 rw [List.getD_eq_getElem?_getD, List.getElem?_eq_getElem hi] at e
 have hlen := zn3 r css h
 obtain ⟨h1, h2⟩ := cssS_get r css h i (by omega) hi'
 have e : (tabS n css)[i] = _ := e
 rw [e]
 exact tms_le _ _ _ (by rw [cmds_len _ _ h2]; exact h1)
theorem honest_eq (r : List (List (List UInt8))) : ∃ b e, zf9 r = some (b, e) /\ (e = 0 -> b = true -> ∃ css, r.length <= 4 /\ cssS r = some css /\ OneS (tabS 0 css).flatten /\ ∀ (i : Nat) (h : i < css.length), RunOk (tabS 0 css) (i : Int) zSk css[i]) := by
 rw [zf9]
 rcases of_eq r with ⟨e, he, h1⟩ | ⟨css, h1, h2, h3⟩
 ·rw [h1]
  simp only [Option.bind_some, he, not_false_eq_true, if_true]
  exact ⟨false, e, rfl, fun h => absurd h he⟩
 ·rw [h3]
  simp only [Option.bind_some, not_true_eq_false, if_false]
  have hlen := zn3 r css h2
  obtain ⟨b1, e1, e2⟩ := one_eq (tabS 0 css) (by rw [tabS_len]; omega) (tab_le h2 0)
  rw [e1]
  simp only [Option.bind_some]
  obtain ⟨b2, e3, e4⟩ := honest_loop (tabS 0 css) r css 0 b1 h2 (by omega)
  rw [e3]
  refine ⟨b2, 0, rfl, fun _ hb => ⟨css, h1, h2, e2 (e4 hb).1, fun i hi => ?_⟩⟩
  have := (e4 hb).2 i hi
  rwa [Nat.zero_add] at this
end Go.Proofs
end

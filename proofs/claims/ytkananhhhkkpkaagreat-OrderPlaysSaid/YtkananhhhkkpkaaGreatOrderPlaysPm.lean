/- Texts of the proof. -/
import Derived.Test.YtkananhhhkkpkaaGreatOrderPlaysPe
import Derived.Test.YtkananhhhkkpkaaGreatOrderPlaysPh
import Derived.Test.YtkananhhhkkpkaaGreatOrderPlaysPj
import Derived.Test.YtkananhhhkkpkaaGreatOrderPlaysPk
section
namespace Go.Proofs
open Go.Tm
def zgr : Int -> List Int -> Bool
 | _, [] => true
 | last, n :: r => decide (last < n) && decide (n < 6) && zgr n r
end Go.Proofs
end
section
namespace Go.Proofs
open Go.Tm
set_option linter.unusedSimpArgs false
set_option linter.unusedVariables false
theorem index_loop (v : Int) (l : List Int) : ∀ n : Nat, (v ∈ l -> ∃ k : Nat, zb6 v l n = some (.inl (k : Int))) /\ (v ∉ l -> zb6 v l n = some (.inr ())) := by
 induction l with
 | nil => intro n; exact ⟨(fun h => by cases h), fun _ => rfl⟩
 | cons y l ih =>
  intro n
  rw [zb6]
  by_cases h : v = y
  ·rw [if_pos h]
   exact ⟨fun _ => ⟨n, rfl⟩, fun hn => absurd (h ▸ List.mem_cons_self) hn⟩
  ·rw [if_neg h]
   refine ⟨fun hv => (ih (n + 1)).1 ?_, fun hv => (ih (n + 1)).2 fun hh => hv (List.mem_cons_of_mem _ hh)⟩
   rcases List.mem_cons.1 hv with hv | hv
   ·exact absurd hv h
   ·exact hv
theorem contains_eq (l : List Int) (v : Int) : zd4 l v = some (decide (v ∈ l)) := by
 rw [zd4, zel]
 by_cases h : v ∈ l
 ·obtain ⟨k, hk⟩ := (index_loop v l 0).1 h
  rw [hk]
  simp [h]
 ·rw [(index_loop v l 0).2 h]
  simp [h]
theorem hasR_loop (v : Int) (l : List Int) : zbu v l = some (if v ∈ l then .inl true else .inr ()) := by
 induction l with
 | nil => rfl
 | cons y l ih =>
  rw [zbu]
  by_cases h : y = v
  ·rw [if_pos h, if_pos (by rw [h]; exact List.mem_cons_self)]
  ·rw [if_neg h, ih]
   have : (v ∈ y :: l) ↔ v ∈ l := by simp [Ne.symm h]
   simp only [this]
theorem hasR_eq (l : List Int) (v : Int) : zdk l v = some (decide (v ∈ l)) := by
 rw [zdk, hasR_loop]
 by_cases h : v ∈ l <;> simp [h]
theorem rises_lt : ∀ (l : List Int) (k : Int), zgr k l = true -> ∀ x ∈ l, k < x /\ x < 6 := by
 intro l
 induction l with
 | nil => intro _ _ x hx; cases hx
 | cons y l ih =>
  intro k h x hx
  simp only [zgr, Bool.and_eq_true, decide_eq_true_eq] at h
  rcases List.mem_cons.1 hx with rfl | hx
  ·exact h.1
  ·have := ih y h.2 x hx
   omega
theorem qcheck_loop (l : List Int) : ∀ n, zcf l n = some (if zgr n l = true then .inr (l.getLastD n) else .inl 60) := by
 induction l with
 | nil => intro n; simp [zcf, zgr]
 | cons y l ih =>
  intro n
  rw [zcf]
  by_cases h : (y <= n) \/ (y >= 6)
  ·rw [if_pos h, if_neg (by simp only [zgr, Bool.and_eq_true, decide_eq_true_eq]; omega)]
  ·rw [if_neg h, ih]
   have : zgr n (y :: l) = zgr y l := by
    simp only [zgr]
    have h1 : decide (n < y) = true := by simp; omega
    have h2 : decide (y < 6) = true := by simp; omega
    simp [h1, h2]
   rw [this, List.getLastD_cons]
def qerr (l : List Int) : Int := if l.length > 6 then 4 else if zgr (-1) l = true /\ l ≠ [] then 0 else 60
theorem qcheck_eq (l : List Int) : zge l = some (qerr l) := by
 rw [zge]
 unfold qerr
 by_cases h : (l.length : Int) > 6
 ·rw [if_pos h, if_pos (by omega)]
 ·rw [if_neg h, if_neg (by omega), qcheck_loop]
  by_cases hr : zgr (-1) l = true
  ·rw [if_pos hr]
   cases l with
   | nil => simp
   | cons y l =>
    have hl := (rises_lt (y :: l) (-1) hr ((y :: l).getLastD (-1)) (by rw [List.getLastD_eq_getLast?, List.getLast?_eq_some_getLast (by simp)]; exact List.getLast_mem (by simp))).1
    simp only [Option.bind_some, ne_eq, reduceCtorEq, not_false_eq_true, and_true, if_pos hr]
    rw [if_neg (by omega)]
  ·rw [if_neg hr]
   simp [hr]
theorem may_loop (l : List Int) : ∀ (pre : List Int) (k : Int), (pre = [] /\ k = -1 \/ 0 <= k /\ pre.getLast? = some k) -> zbf (pre ++ l) l pre.length = some (if zgr k l = true then .inr () else .inl false) := by
 induction l with
 | nil => intro pre k _; simp [zbf, zgr]
 | cons y l ih =>
  intro pre k hk
  rw [zbf]
  have hc : (((y < 0) \/ (y >= 6)) \/ (((pre.length : Int) > 0) /\ (y <= ((pre ++ y :: l).getD (pre.length - 1) default)))) ↔ ¬ (k < y /\ y < 6) := by
   rcases hk with ⟨rfl, rfl⟩ | ⟨h0, hl⟩
   ·simp; omega
   ·have hne : pre ≠ [] := by rintro rfl; simp at hl
    have hp : 0 < pre.length := List.length_pos_iff.2 hne
    have hg : (pre ++ y :: l).getD (pre.length - 1) default = k := by
     rw [List.getD_eq_getElem?_getD, List.getElem?_append_left (by omega), <- List.getLast?_eq_getElem?, hl]; rfl
    rw [hg]; omega
  by_cases h : k < y /\ y < 6
  ·rw [if_neg (fun hh => hc.1 hh h)]
   have e : zgr k (y :: l) = zgr y l := by simp [zgr, h.1, h.2]
   have := ih (pre ++ [y]) y (.inr ⟨by rcases hk with ⟨_, rfl⟩ | ⟨h0, _⟩ <;> omega, by simp⟩)
   rw [List.append_assoc, List.singleton_append, List.length_append, List.length_singleton] at this
   rw [e]; exact this
  ·rw [if_pos (hc.2 h), if_neg]
   simp only [zgr, Bool.and_eq_true, decide_eq_true_eq]
   exact fun hh => h hh.1
theorem may_eq (l : List Int) : zea l = some (zgr (-1) l && decide (1 <= l.length) && decide (l.length <= 6)) := by
 rw [zea]
 have := may_loop l [] (-1) (.inl ⟨rfl, rfl⟩)
 rw [List.nil_append, List.length_nil] at this
 rw [this]
 by_cases h : zgr (-1) l = true
 ·simp only [h, if_true, Option.bind_some, Bool.true_and]
  congr 1
  have e1 : decide ((l.length : Int) >= 1) = decide (1 <= l.length) := decide_eq_decide.2 (by omega)
  have e2 : decide ((l.length : Int) <= 6) = decide (l.length <= 6) := decide_eq_decide.2 (by omega)
  rw [e1, e2]
 ·simp [h]
theorem qcheckR_eq (l : List Int) : zdu l = some (qerr l) := by
 rw [zdu, may_eq]
 unfold qerr
 by_cases h : (l.length : Int) > 6
 ·rw [if_pos h, if_pos (by omega)]
 ·rw [if_neg h, if_neg (by omega)]
  simp only [Option.bind_some]
  have h6 : decide (l.length <= 6) = true := by simp; omega
  rw [h6, Bool.and_true]
  by_cases hr : zgr (-1) l = true
  ·cases l with
   | nil => simp
   | cons y l => simp [hr]
  ·simp [hr]
theorem equal_loop (b : List Int) : ∀ (l : List Int) (n : Nat), n + l.length = b.length -> zb7 b l n = some (if l = b.drop n then .inr () else .inl false) := by
 intro l
 induction l with
 | nil => intro n h; simp [zb7]; simp at h; omega
 | cons y l ih =>
  intro n h
  simp only [List.length_cons] at h
  have hn : n < b.length := by omega
  have hg : b.getD n default = b[n] := by simp [List.getD, List.getElem?_eq_getElem hn]
  have hd := List.drop_eq_getElem_cons hn
  rw [zb7, if_pos hn, hg]
  generalize b[n] = z at hd
  rw [hd]
  by_cases hy : y = z
  ·rw [if_neg (by simpa using hy), ih (n + 1) (by omega)]
   simp only [hy, List.cons.injEq, true_and]
  ·rw [if_pos hy]
   simp only [hy, List.cons.injEq, false_and, if_false]
theorem equal_eq (a b : List Int) : zd3 a b = some (decide (a = b)) := by
 rw [zd3]
 by_cases h : (a.length : Int) = (b.length : Int)
 ·rw [if_neg (by simpa using h), equal_loop b a 0 (by omega), List.drop_zero]
  by_cases hab : a = b <;> simp [hab]
 ·rw [if_pos h]
  have : a ≠ b := fun hh => h (by rw [hh])
  simp [this]
theorem half_eq (i j : Nat) (h : i + j < 4000000) : wr .i64 (shw false .u64 (wr .u64 (wr .i64 ((i : Int) + (j : Int)))) 1) = (((i + j) / 2 : Nat) : Int) := by
 have e1 : wr .i64 ((i : Int) + (j : Int)) = (i : Int) + (j : Int) := wr_eq _ _ (by show (-9223372036854775808 : Int) <= _; omega) (by show _ <= (9223372036854775807 : Int); omega)
 have e2 : wr .u64 ((i : Int) + (j : Int)) = (i : Int) + (j : Int) := wr_eq _ _ (by show (0 : Int) <= _; omega) (by show _ <= (18446744073709551615 : Int); omega)
 have e3 : shw false .u64 ((i : Int) + (j : Int)) 1 = (((i + j) / 2 : Nat) : Int) := by
  unfold shw
  show Int.fdiv ((i : Int) + (j : Int)) 2 = _
  rw [Int.fdiv_eq_ediv_of_nonneg _ (by omega)]
  omega
 rw [e1, e2, e3]
 exact wr_eq _ _ (by show (-9223372036854775808 : Int) <= _; omega) (by show _ <= (9223372036854775807 : Int); omega)
end Go.Proofs
end
section
namespace Go.Proofs
open Go.Tm
set_option linter.unusedSimpArgs false
def stW (w : TWait) : TStamp := ⟨w.Time, w.Message.Id⟩
def ltS (a b : TStamp) : Prop := a.Time < b.Time \/ (a.Time = b.Time /\ a.Id < b.Id)
instance (a b : TStamp) : Decidable (ltS a b) := by unfold ltS; infer_instance
theorem ltS_trans {a b c : TStamp} (h : ltS a b) (k : ltS b c) : ltS a c := by unfold ltS at *; omega
theorem ltS_irrefl (a : TStamp) : ¬ ltS a a := by unfold ltS; omega
theorem ltS_total {a b : TStamp} (h : a.Id ≠ b.Id) (k : ¬ ltS b a) : ltS a b := by unfold ltS at *; omega
theorem or2 (x y : Int) : zhq [x, y] = some (if x = 0 then y else x) := by
 rw [zhq, zd0]
 by_cases hx : x = 0
 ·rw [if_neg (by simpa using hx), zd0, if_pos hx]
  by_cases hy : y = 0
  ·rw [if_neg (by simpa using hy), zd0]; simp [hy]
  ·rw [if_pos hy]; rfl
 ·rw [if_pos hx, if_neg hx]; rfl
theorem cmp_eq (x y : Int) : zeh x y = some (if x < y then -1 else if x > y then 1 else 0) := by
 have e : ∀ z : Int, zey z = some false := fun z => by rw [zey]; simp
 rw [zeh, e, e]
 simp only [Option.bind_some, Bool.false_eq_true, if_false]
 split
 ·rfl
 ·split <;> rfl
theorem less_eq (a b : TStamp) : zf8 a b = some (decide (ltS a b)) := by
 rw [zf8, cmp_eq, cmp_eq]
 simp only [Option.bind_some, or2, Option.some.injEq, decide_eq_decide, ltS]
 by_cases h1 : a.Time < b.Time
 ·simp [h1]
 ·by_cases h2 : a.Time > b.Time
  ·simp [h1, h2]; omega
  ·have : a.Time = b.Time := by omega
   by_cases h3 : a.Id < b.Id
   ·simp [this, h3]
   ·by_cases h4 : a.Id > b.Id <;> simp [this, h3, h4]
theorem order_eq (a b : TWait) : zdg a b = some (if ltS (stW a) (stW b) then -1 else if ltS (stW b) (stW a) then 1 else 0) := by
 simp only [zdg, zep, Option.bind_some, less_eq, decide_eq_true_eq]
 show (if ltS (stW a) (stW b) then _ else if ltS (stW b) (stW a) then _ else _) = _
 split
 ·rfl
 ·split <;> rfl
def minW : TWait -> List TWait -> TWait
 | m, [] => m
 | m, x :: l => minW (if ltS (stW x) (stW m) then x else m) l
theorem minW_mem : ∀ (l : List TWait) (m : TWait), minW m l = m \/ minW m l ∈ l := by
 intro l
 induction l with
 | nil => intro m; exact .inl rfl
 | cons x l ih =>
  intro m
  rw [minW]
  rcases ih (if ltS (stW x) (stW m) then x else m) with h | h
  ·rw [h]; split
   ·exact .inr (by simp)
   ·exact .inl rfl
  ·exact .inr (List.mem_cons_of_mem _ h)
theorem minW_le : ∀ (l : List TWait) (m : TWait), ¬ ltS (stW m) (stW (minW m l)) /\ ∀ x ∈ l, ¬ ltS (stW x) (stW (minW m l)) := by
 intro l
 induction l with
 | nil => intro m; exact ⟨ltS_irrefl _, by simp⟩
 | cons x l ih =>
  intro m
  rw [minW]
  obtain ⟨h1, h2⟩ := ih (if ltS (stW x) (stW m) then x else m)
  have key : ¬ ltS (stW m) (stW (minW (if ltS (stW x) (stW m) then x else m) l)) /\ ¬ ltS (stW x) (stW (minW (if ltS (stW x) (stW m) then x else m) l)) := by
   by_cases h : ltS (stW x) (stW m)
   ·rw [if_pos h] at h1 ⊢
    exact ⟨fun k => h1 (ltS_trans h k), h1⟩
   ·rw [if_neg h] at h1 ⊢
    refine ⟨h1, fun k => ?_⟩
    have := @ltS_trans
    unfold ltS at *; omega
  refine ⟨key.1, fun y hy => ?_⟩
  rcases List.mem_cons.1 hy with rfl | hy
  ·exact key.2
  ·exact h2 y hy
theorem min_loop (l : List TWait) (hl : l.length < 1000000) : ∀ (fu k : Nat) (m : TWait), l.length - k < fu -> k <= l.length ->
  zag l zdg fu m.Message.Id m.Message.Groups m.Message.Topic m.Message.Key m.Message.Body m.Time m.Final (k : Int)
   = some (let r := minW m (l.drop k); (r.Message.Id, r.Message.Groups, r.Message.Topic, r.Message.Key, r.Message.Body, r.Time, r.Final)) := by
 intro fu
 induction fu with
 | zero => intro k m h; omega
 | succ fu ih =>
  intro k m h hk
  rw [zag]
  by_cases hlt : k < l.length
  ·have hd := List.drop_eq_getElem_cons hlt
   have hg : l.getD (k : Int).toNat default = l[k] := by simp [List.getD, List.getElem?_eq_getElem hlt]
   have hw : wr .i64 ((k : Int) + 1) = ((k + 1 : Nat) : Int) := wr_eq _ _ (by show (-9223372036854775808 : Int) <= _; omega) (by show _ <= (9223372036854775807 : Int); omega)
   rw [if_pos (by omega), if_pos (by omega), hg, order_eq, hd, minW]
   show Option.bind (Option.bind (some (if ltS (stW l[k]) (stW m) then (-1 : Int) else if ltS (stW m) (stW l[k]) then 1 else 0)) _) _ = _
   simp only [Option.bind_some]
   by_cases hc : ltS (stW l[k]) (stW m)
   ·simp only [hc, if_true]
    rw [if_pos (by decide), if_pos (by omega)]
    simp only [Option.bind_some]
    rw [hw, ih (k + 1) l[k] (by omega) (by omega)]
   ·simp only [hc, if_false]
    rw [if_neg (by split <;> decide)]
    simp only [Option.bind_some]
    rw [hw, ih (k + 1) m (by omega) (by omega)]
  ·rw [if_neg (by omega), List.drop_of_length_le (by omega), minW]
theorem min_eq (y : TWait) (l : List TWait) (hl : l.length < 900000) : zbv (y :: l) zdg = some (minW y l) := by
 rw [zbv, if_neg (by simp; omega), if_pos (by simp)]
 have := min_loop (y :: l) (by simp; omega) ((y :: l).length + 1) 1 y (by simp; omega) (by simp)
 rw [show ((1 : Nat) : Int) = 1 from rfl] at this
 have e : (y :: l).getD 0 default = y := rfl
 rw [e, this]
 rfl
theorem minw_loop (l : List TWait) (f : TWait -> TWait -> Option Int) : ∀ (fu : Nat) (a : Int) (b : List Int) (c : Int) (d e : List UInt8) (g : Int) (h : Bool) (i : Int), zaq l f fu a b c d e g h i = zag l f fu a b c d e g h i := by
 intro fu
 induction fu with
 | zero => intros; rfl
 | succ fu ih =>
  intros
  rw [zaq, zag]
  simp only [ih]
theorem minw_eq (y : TWait) (l : List TWait) (hl : l.length < 900000) : zck (y :: l) zdg = some (minW y l) := by
 rw [<- min_eq y l hl, zck, zbv]
 simp only [minw_loop]
def IdOk (n : Int) : Prop := 0 <= n /\ n <= 6291455
def IdsUp (l : List TWait) : Prop := l.Pairwise fun a b => a.Message.Id < b.Message.Id
theorem find1 (w : TWait) (id : Int) (h1 : IdOk w.Message.Id) (h2 : IdOk id) : zcv w id = some (w.Message.Id - id) := by
 rw [zcv]
 unfold IdOk at *
 rw [wr_eq _ _ (by show (-9223372036854775808 : Int) <= _; omega) (by show _ <= (9223372036854775807 : Int); omega)]
def plc (id : Int) : List TWait -> Nat
 | [] => 0
 | w :: l => if w.Message.Id < id then plc id l + 1 else 0
theorem plc_le (id : Int) : ∀ l, plc id l <= l.length := by
 intro l
 induction l with
 | nil => simp [plc]
 | cons w l ih => rw [plc]; split <;> simp <;> omega
theorem plc_lt (id : Int) : ∀ (l : List TWait), IdsUp l -> ∀ (x : Nat) (h : x < l.length), (l[x].Message.Id < id ↔ x < plc id l) := by
 intro l
 induction l with
 | nil => intro _ x h; simp at h
 | cons w l ih =>
  intro hu x h
  have hu' := List.pairwise_cons.1 hu
  rw [plc]
  cases x with
  | zero => simp only [List.getElem_cons_zero]; split <;> simp [*]
  | succ x =>
   simp only [List.getElem_cons_succ]
   have hx : x < l.length := by simpa using h
   have := ih hu'.2 x hx
   split
   ·rw [this]; omega
   ·rename_i hw
    have := hu'.1 l[x] (List.getElem_mem hx)
    constructor
    ·intro _; omega
    ·intro h; omega
theorem bs_loop (l : List TWait) (id : Int) (hl : l.length < 1000000) (hu : IdsUp l) (hi : ∀ w ∈ l, IdOk w.Message.Id) (h2 : IdOk id) : ∀ (fu i j : Nat), j - i < fu -> i <= plc id l -> plc id l <= j -> j <= l.length ->
  za7 l id zcv fu (i : Int) (j : Int) = some ((plc id l : Nat) : Int) := by
 intro fu
 induction fu with
 | zero => intro i j h; omega
 | succ fu ih =>
  intro i j h h1 h3 h4
  rw [za7]
  by_cases hij : i < j
  ·have hm : (i + j) / 2 < l.length := by omega
   have hg : l.getD (((i + j) / 2 : Nat) : Int).toNat default = l[(i + j) / 2] := by rw [Int.toNat_natCast]; simp [List.getD, List.getElem?_eq_getElem hm]
   have e : wr .i64 ((((i + j) / 2 : Nat) : Int) + 1) = (((i + j) / 2 + 1 : Nat) : Int) := wr_eq _ _ (by show (-9223372036854775808 : Int) <= _; omega) (by show _ <= (9223372036854775807 : Int); omega)
   rw [if_pos (by omega), half_eq i j (by omega), if_pos ⟨by omega, by omega⟩, hg, find1 _ _ (hi _ (List.getElem_mem hm)) h2, e]
   simp only [Option.bind_some]
   have hp := plc_lt id l hu _ hm
   by_cases hc : l[(i + j) / 2].Message.Id < id
   ·rw [if_pos (by omega)]
    exact ih _ _ (by omega) (by have := hp.1 hc; omega) h3 h4
   ·rw [if_neg (by omega)]
    exact ih _ _ (by omega) h1 (by have : ¬ _ := fun k => hc (hp.2 k); omega) (by omega)
  ·rw [if_neg (by omega)]
   have : i = plc id l := by omega
   rw [this]
theorem plc_at (id : Int) (l : List TWait) (hu : IdsUp l) : (∃ w ∈ l, w.Message.Id = id) ↔ ∃ h : plc id l < l.length, l[plc id l].Message.Id = id := by
 constructor
 ·rintro ⟨w, hw, rfl⟩
  obtain ⟨x, hx, rfl⟩ := List.getElem_of_mem hw
  have h1 : ¬ x < plc l[x].Message.Id l := fun k => by have := (plc_lt _ l hu x hx).2 k; omega
  have h2 : plc l[x].Message.Id l <= x := by omega
  have h3 : plc l[x].Message.Id l < l.length := by omega
  refine ⟨h3, ?_⟩
  have h4 : ¬ l[plc l[x].Message.Id l].Message.Id < l[x].Message.Id := fun k => by have := (plc_lt _ l hu _ h3).1 k; omega
  rcases Nat.lt_or_eq_of_le h2 with h5 | h5
  ·have := List.pairwise_iff_getElem.1 hu _ _ h3 hx h5
   omega
  ·simp only [h5]
 ·rintro ⟨h, e⟩
  exact ⟨_, List.getElem_mem h, e⟩
theorem find_eq (c : Tskeen_clock) (id : Int) (hl : c.Skeen.Waits.length < 1000000) (hu : IdsUp c.Skeen.Waits) (hi : ∀ w ∈ c.Skeen.Waits, IdOk w.Message.Id) (h2 : IdOk id) :
  zdh c id = some (((plc id c.Skeen.Waits : Nat) : Int), decide (∃ w ∈ c.Skeen.Waits, w.Message.Id = id)) := by
 obtain ⟨⟨ck, l, dn⟩⟩ := c
 simp only at hl hu hi ⊢
 have hb := bs_loop l id hl hu hi h2 (l.length + 1) 0 l.length (by omega) (by omega) (plc_le id l) (by omega)
 rw [zdh, zbw]
 simp only
 have e0 : ((0 : Nat) : Int) = 0 := rfl
 rw [e0] at hb
 rw [hb]
 simp only [Option.bind_some]
 rw [if_pos (by intro h; omega)]
 have hp := plc_at id l hu
 by_cases hc : plc id l < l.length
 ·have hg : l.getD ((plc id l : Nat) : Int).toNat default = l[plc id l] := by rw [Int.toNat_natCast]; simp [List.getD, List.getElem?_eq_getElem hc]
  rw [if_pos (by omega), hg, find1 _ _ (hi _ (List.getElem_mem hc)) h2]
  simp only [Option.bind_some, Option.some.injEq, Prod.mk.injEq, true_and]
  rw [decide_eq_true (by omega : ((plc id l : Nat) : Int) < (l.length : Int)), Bool.true_and]
  by_cases hx : ∃ w ∈ l, w.Message.Id = id
  ·obtain ⟨h3, h4⟩ := hp.1 hx
   simp only [hx, decide_true]
   simp; omega
  ·simp only [hx, decide_false]
   have : ¬ l[plc id l].Message.Id = id := fun k => hx (hp.2 ⟨hc, k⟩)
   simp; omega
 ·rw [if_neg (by omega)]
  have : ¬ ∃ w ∈ l, w.Message.Id = id := fun k => hc (hp.1 k).1
  simp only [Option.bind_some, this, decide_false]
  rw [decide_eq_false (by omega), Bool.false_and]
theorem ixS_loop (f : TStamp -> Option Bool) (g : TStamp -> Bool) (hf : ∀ x, f x = some (g x)) (l : List TStamp) : ∀ n : Nat, (l.any g = true -> ∃ k : Nat, zaf f l n = some (.inl (k : Int))) /\ (l.any g = false -> zaf f l n = some (.inr ())) := by
 induction l with
 | nil => intro n; exact ⟨(fun h => by cases h), fun _ => rfl⟩
 | cons y l ih =>
  intro n
  rw [zaf, hf, List.any_cons]
  cases hg : g y with
  | true => exact ⟨fun _ => ⟨n, by simp⟩, fun h => by cases h⟩
  | false => simpa using ih (n + 1)
theorem done_eq (c : Tskeen_clock) (id : Int) : zeq c id = some (c.Skeen.Done.any fun x => x.Id == id) := by
 rw [zeq, zcl, zcx]
 have hf : ∀ x : TStamp, (fun x0 => zeb x0 id) x = some (x.Id == id) := fun x => rfl
 cases h : c.Skeen.Done.any fun x => x.Id == id with
 | true => obtain ⟨k, hk⟩ := (ixS_loop _ _ hf c.Skeen.Done 0).1 h; rw [hk]; simp
 | false => rw [(ixS_loop _ _ hf c.Skeen.Done 0).2 h]; simp
end Go.Proofs
end
section
namespace Go.Proofs
open Go.Tm
set_option linter.unusedSimpArgs false
theorem in_eq (a b c : Int) : zcz a b c = some (decide (b <= a /\ a <= c)) := by
 rw [zcz]; by_cases h : b <= a <;> by_cases k : a <= c <;> simp [h, k]
instance (n : Int) : Decidable (IdOk n) := by unfold IdOk; infer_instance
theorem cid_eq (a : Int) : zg0 a = some (decide (IdOk a)) := by
 rw [zg0, in_eq, Option.bind_some]; rfl
def MsgOk (m : TMessage) : Prop := zar m = some 0
theorem msg_loop (m : TMessage) : ∀ (l : List Int) (n : Nat) (b : Bool), ∃ r, za9 m l n b = some r := by
 intro l
 induction l with
 | nil => intro n b; exact ⟨b, rfl⟩
 | cons y l ih =>
  intro n b
  rw [za9, in_eq]
  cases b with
  | true => simp only [if_true, Option.bind_some]; exact ih _ _
  | false => simp only [Bool.false_eq_true, if_false, Option.bind_some]; exact ih _ _
theorem msg_tot (m : TMessage) : (∃ e, zar m = some e) /\ (zar m = some 0 -> IdOk m.Id) := by
 obtain ⟨b, hb⟩ := msg_loop m m.Groups 0 ((decide ((m.Groups.length : Int) >= 1)) && (decide ((m.Groups.length : Int) <= 4)))
 have key : zar m = some (if ((((¬ (b = true)) \/ (¬ (decide (IdOk m.Id) = true))) \/ (¬ (decide (0 <= m.Topic /\ m.Topic <= 3) = true))) \/ ((m.Key.length : Int) > 16)) \/ ((m.Body.length : Int) > 64) then 120 else 0) := by
  rw [zar, hb]
  simp only [Option.bind_some, cid_eq, in_eq]
  cases b with
  | true =>
   simp only [not_true_eq_false, not_false_eq_true, if_true, Option.bind_some, false_or]
   by_cases hi : IdOk m.Id
   ·simp only [hi, decide_true, not_true_eq_false, not_false_eq_true, if_true, Option.bind_some, false_or]
    split <;> rfl
   ·simp only [hi, decide_false, Bool.false_eq_true, not_false_eq_true, not_true_eq_false, if_false, Option.bind_some, true_or, if_true]
  | false => simp
 refine ⟨⟨_, key⟩, fun h => ?_⟩
 rw [key] at h
 by_cases hi : IdOk m.Id
 ·exact hi
 ·simp [hi] at h
theorem MsgOk.id {m : TMessage} (h : MsgOk m) : IdOk m.Id := (msg_tot m).2 h
def zi1 (x : TStamp) : Prop := 0 <= x.Time /\ x.Time <= 1073741824 /\ 0 <= x.Id /\ x.Id < 6291456
instance (x : TStamp) : Decidable (zi1 x) := by unfold zi1; infer_instance
theorem stc_eq (x : TStamp) : zh1 x = some (if zi1 x then 0 else 8) := by
 rw [zh1]
 by_cases h : zi1 x
 ·rw [if_pos h, if_neg (by unfold zi1 at h; omega)]
 ·rw [if_neg h, if_pos (by unfold zi1 at h; omega)]
theorem mget_mput (k i v : Int) : ∀ m : List (Int × Int), mget k (mput i v m) = if k = i then some v else mget k m := by
 intro m
 induction m with
 | nil => simp [mput, mget]
 | cons x m ih =>
  rw [mput]
  by_cases h : i = x.1
  ·rw [if_pos h]; simp only [mget]
   by_cases hk : k = i
   ·simp [hk]
   ·simp [hk, show k ≠ x.1 from fun e => hk (e.trans h.symm)]
  ·rw [if_neg h]; simp only [mget]
   by_cases hx : k = x.1
   ·simp [hx, show ¬ x.1 = i from fun e => h e.symm]
   ·rw [if_neg hx, ih, if_neg hx]
def DOk (c : Int) (D : List TStamp) : Prop := (∀ x ∈ D, zi1 x /\ 1 <= x.Time /\ x.Time <= c) /\ D.Pairwise ltS /\ (D.map TStamp.Id).Nodup
theorem DOk.pre {c : Int} {D E : List TStamp} (h : DOk c (D ++ E)) : DOk c D :=
 ⟨fun x hx => h.1 x (List.mem_append_left _ hx), (List.pairwise_append.1 h.2.1).1, by have := h.2.2; rw [List.map_append] at this; exact (List.nodup_append.1 this).1⟩
theorem ltS_last {D : List TStamp} (h : D.Pairwise ltS) {p : TStamp} (hp : D.getLast? = some p) : ∀ x ∈ D, x = p \/ ltS x p := by
 obtain ⟨E, rfl⟩ := List.getLast?_eq_some_iff.1 hp
 intro x hx
 rcases List.mem_append.1 hx with hx | hx
 ·exact .inr ((List.pairwise_append.1 h).2.2 x hx p (by simp))
 ·simp at hx; exact .inl hx
theorem DOk.snoc {c : Int} {D : List TStamp} (h : DOk c D) (y : TStamp) : DOk c (D ++ [y]) ↔ (zi1 y /\ 1 <= y.Time /\ y.Time <= c) /\ (∀ p, D.getLast? = some p -> ltS p y) /\ y.Id ∉ D.map TStamp.Id := by
 constructor
 ·intro k
  refine ⟨k.1 y (by simp), fun p hp => ?_, fun hm => ?_⟩
  ·exact (List.pairwise_append.1 k.2.1).2.2 p (List.mem_of_getLast? hp) y (by simp)
  ·have := k.2.2; rw [List.map_append] at this
   exact (List.nodup_append.1 this).2.2 _ hm _ (by simp) rfl
 ·rintro ⟨h1, h2, h3⟩
  refine ⟨fun x hx => ?_, ?_, ?_⟩
  ·rcases List.mem_append.1 hx with hx | hx
   ·exact h.1 x hx
   ·simp at hx; subst hx; exact h1
  ·rw [List.pairwise_append]
   refine ⟨h.2.1, by simp, fun x hx z hz => ?_⟩
   simp at hz; subst hz
   cases hl : D.getLast? with
   | none => rw [List.getLast?_eq_none_iff] at hl; subst hl; simp at hx
   | some p =>
    rcases ltS_last h.2.1 hl x hx with rfl | hh
    ·exact h2 _ hl
    ·exact ltS_trans hh (h2 _ hl)
  ·rw [List.map_append, List.nodup_append]
   refine ⟨h.2.2, by simp, fun a ha b hb e => ?_⟩
   simp at hb; subst hb; subst e; exact h3 ha
def Mp (D : List TStamp) (m : List (Int × Int)) : Prop := ∀ k, ((mget k m).getD 0 > 0 ↔ k ∈ D.map TStamp.Id)
theorem Mp.snoc {D : List TStamp} {m : List (Int × Int)} (h : Mp D m) (y : TStamp) : Mp (D ++ [y]) (mput y.Id 1 m) := by
 intro k
 rw [mget_mput]
 by_cases e : k = y.Id
 ·simp [e]
 ·rw [if_neg e, h k]; simp [e]
theorem ck1 (s : TSkeen) : ∀ (l pre : List TStamp) (m : List (Int × Int)) (n3 n4 : Int), DOk s.Clock pre -> Mp pre m -> (∀ x, pre.getLast? = some x -> x = ⟨n3, n4⟩) ->
  (DOk s.Clock (pre ++ l) -> ∃ m' a b, zbe s l pre.length m n3 n4 = some (.inr (m', a, b)) /\ Mp (pre ++ l) m' /\ ∀ x, (pre ++ l).getLast? = some x -> x = ⟨a, b⟩) /\
  (¬ DOk s.Clock (pre ++ l) -> zbe s l pre.length m n3 n4 = some (.inl 8)) := by
 intro l
 induction l with
 | nil =>
  intro pre m n3 n4 h1 h2 h3
  rw [List.append_nil]
  exact ⟨fun _ => ⟨m, n3, n4, rfl, h2, h3⟩, fun h => absurd h1 h⟩
 | cons y l ih =>
  intro pre m n3 n4 h1 h2 h3
  have ea : pre ++ y :: l = (pre ++ [y]) ++ l := by simp
  have hs := h1.snoc y
  have el : (pre ++ [y]).length = pre.length + 1 := by simp
  have hlast : ∀ x, (pre ++ [y]).getLast? = some x -> x = ⟨y.Time, y.Id⟩ := by
   intro x hx; simp at hx; exact hx.symm
  -- the round's test
  have key : ∀ k : Option (Int ⊕ (List (Int × Int) × Int × Int)), (DOk s.Clock (pre ++ [y]) -> k = zbe s l (pre.length + 1) (mput y.Id 1 m) y.Time y.Id) -> (¬ DOk s.Clock (pre ++ [y]) -> k = some (.inl 8)) -> zbe s (y :: l) pre.length m n3 n4 = k := by
   intro k k1 k2
   rw [zbe, stc_eq]
   simp only [Option.bind_some, less_eq]
   by_cases c1 : zi1 y /\ 1 <= y.Time /\ y.Time <= s.Clock
   ·have e1 : ¬ ((¬ (if zi1 y then (0 : Int) else 8) = 0 \/ y.Time < 1) \/ y.Time > s.Clock) := by
     rw [if_pos c1.1]; omega
    by_cases c2 : pre.length = 0
    ·have hp : pre = [] := List.length_eq_zero_iff.1 c2
     have hl : ∀ p, pre.getLast? = some p -> ltS p y := by subst hp; simp
     rw [if_neg (by rw [c2]; simp)]
     simp only [Option.bind_some]
     by_cases c3 : y.Id ∈ pre.map TStamp.Id
     ·rw [if_pos (.inr ((h2 _).2 c3)), k2 (fun h => (hs.1 h).2.2 c3)]
     ·rw [if_neg, k1 (hs.2 ⟨c1, hl, c3⟩)]
      rintro ((hh | hh) | hh)
      ·exact e1 hh
      ·omega
      ·exact c3 ((h2 _).1 hh)
    ·obtain ⟨p, hp⟩ : ∃ p, pre.getLast? = some p := by
      cases hq : pre.getLast? with
      | none => rw [List.getLast?_eq_none_iff] at hq; subst hq; simp at c2
      | some p => exact ⟨p, rfl⟩
     have ep := h3 p hp
     rw [if_pos ⟨e1, by omega⟩]
     simp only [Option.bind_some, decide_eq_true_eq]
     by_cases c4 : ltS ⟨n3, n4⟩ y
     ·by_cases c3 : y.Id ∈ pre.map TStamp.Id
      ·rw [if_pos (.inr ((h2 _).2 c3)), k2 (fun h => (hs.1 h).2.2 c3)]
      ·rw [if_neg, k1 (hs.2 ⟨c1, fun q hq => by rw [hp] at hq; cases hq; rw [ep]; exact c4, c3⟩)]
       rintro ((hh | hh) | hh)
       ·exact e1 hh
       ·exact hh.2 c4
       ·exact c3 ((h2 _).1 hh)
     ·rw [if_pos (.inl (.inr ⟨by omega, c4⟩)), k2 (fun h => c4 (by have := (hs.1 h).2.1 p hp; rwa [ep] at this))]
   ·have e1 : ((¬ (if zi1 y then (0 : Int) else 8) = 0 \/ y.Time < 1) \/ y.Time > s.Clock) := by
     by_cases c0 : zi1 y
     ·rw [if_pos c0]; have := c1; simp only [c0, true_and] at this; omega
     ·rw [if_neg c0]; exact .inl (.inl (by decide))
    rw [if_neg (by rintro ⟨hh, _⟩; exact hh e1)]
    simp only [Option.bind_some]
    rw [if_pos (.inl (.inl e1)), k2 (fun h => c1 (hs.1 h).1)]
  rw [ea]
  by_cases hd : DOk s.Clock (pre ++ [y])
  ·have := ih (pre ++ [y]) (mput y.Id 1 m) y.Time y.Id hd (h2.snoc y) hlast
   rw [el] at this
   rw [key _ (fun _ => rfl) (fun h => absurd hd h)]
   exact this
  ·refine ⟨fun h => absurd h.pre hd, fun _ => key _ (fun h => absurd h hd) (fun _ => rfl)⟩
def W1 (c : Int) (D : List TStamp) (w : TWait) : Prop := MsgOk w.Message /\ 1 <= w.Time /\ w.Time <= c /\ (∀ x ∈ D, x.Id ≠ w.Message.Id) /\ ∀ x, D.getLast? = some x -> ltS x (stW w)
def WOk (c : Int) (D : List TStamp) (W : List TWait) : Prop := (∀ w ∈ W, W1 c D w) /\ IdsUp W
theorem WOk.pre {c : Int} {D : List TStamp} {V W : List TWait} (h : WOk c D (V ++ W)) : WOk c D V := ⟨fun w hw => h.1 w (List.mem_append_left _ hw), (List.pairwise_append.1 h.2).1⟩
theorem ids_last {W : List TWait} (h : IdsUp W) {p : TWait} (hp : W.getLast? = some p) : ∀ x ∈ W, x = p \/ x.Message.Id < p.Message.Id := by
 obtain ⟨E, rfl⟩ := List.getLast?_eq_some_iff.1 hp
 intro x hx
 rcases List.mem_append.1 hx with hx | hx
 ·exact .inr ((List.pairwise_append.1 h).2.2 x hx p (by simp))
 ·simp at hx; exact .inl hx
theorem WOk.snoc {c : Int} {D : List TStamp} {W : List TWait} (h : WOk c D W) (y : TWait) : WOk c D (W ++ [y]) ↔ W1 c D y /\ ∀ p, W.getLast? = some p -> p.Message.Id < y.Message.Id := by
 constructor
 ·intro k
  exact ⟨k.1 y (by simp), fun p hp => (List.pairwise_append.1 k.2).2.2 p (List.mem_of_getLast? hp) y (by simp)⟩
 ·rintro ⟨h1, h2⟩
  refine ⟨fun x hx => ?_, ?_⟩
  ·rcases List.mem_append.1 hx with hx | hx
   ·exact h.1 x hx
   ·simp at hx; subst hx; exact h1
  ·unfold IdsUp
   rw [List.pairwise_append]
   refine ⟨h.2, by simp, fun x hx z hz => ?_⟩
   simp at hz; subst hz
   cases hl : W.getLast? with
   | none => rw [List.getLast?_eq_none_iff] at hl; subst hl; simp at hx
   | some p =>
    rcases ids_last h.2 hl x hx with rfl | hh
    ·exact h2 _ hl
    ·have := h2 _ hl; omega
theorem ck2 (s : TSkeen) (m : List (Int × Int)) (a b : Int) (hm : Mp s.Done m) (hab : ∀ x, s.Done.getLast? = some x -> x = ⟨a, b⟩) : ∀ (l pre : List TWait), s.Waits = pre ++ l -> WOk s.Clock s.Done pre ->
  (WOk s.Clock s.Done (pre ++ l) -> zbd s m a b l pre.length = some (.inr ())) /\ (¬ WOk s.Clock s.Done (pre ++ l) -> zbd s m a b l pre.length = some (.inl 8)) := by
 intro l
 induction l with
 | nil =>
  intro pre _ h1
  rw [List.append_nil]
  exact ⟨fun _ => rfl, fun h => absurd h1 h⟩
 | cons y l ih =>
  intro pre hw h1
  have ea : pre ++ y :: l = (pre ++ [y]) ++ l := by simp
  have hs := h1.snoc y
  have el : (pre ++ [y]).length = pre.length + 1 := by simp
  have hprev : ∀ p, pre.getLast? = some p -> s.Waits.getD (pre.length - 1) default = p := by
   intro p hp
   obtain ⟨E, rfl⟩ := List.getLast?_eq_some_iff.1 hp
   rw [hw]; simp [List.getD]
  obtain ⟨⟨e, he⟩, _⟩ := msg_tot y.Message
  have hmo : MsgOk y.Message ↔ e = 0 := by unfold MsgOk; rw [he]; simp
  have key : ∀ k : Option (Int ⊕ Unit), (WOk s.Clock s.Done (pre ++ [y]) -> k = zbd s m a b l (pre.length + 1)) -> (¬ WOk s.Clock s.Done (pre ++ [y]) -> k = some (.inl 8)) -> zbd s m a b (y :: l) pre.length = k := by
   intro k k1 k2
   rw [zbd, he]
   simp only [Option.bind_some, zep, less_eq]
   let T1 : Prop := ((((¬ (e = 0) \/ y.Time < 1) \/ y.Time > s.Clock) \/ (((pre.length : Int) > 0) /\ y.Message.Id <= (s.Waits.getD (pre.length - 1) default).Message.Id)) \/ ((mget y.Message.Id m).getD 0 > 0))
   have t1 : ¬ T1 ↔ (MsgOk y.Message /\ 1 <= y.Time /\ y.Time <= s.Clock /\ (∀ x ∈ s.Done, x.Id ≠ y.Message.Id)) /\ (∀ p, pre.getLast? = some p -> p.Message.Id < y.Message.Id) := by
    have h3 : ((mget y.Message.Id m).getD 0 > 0) ↔ ¬ ∀ x ∈ s.Done, x.Id ≠ y.Message.Id := by
     rw [hm]; simp
    have h4 : (((pre.length : Int) > 0) /\ y.Message.Id <= (s.Waits.getD (pre.length - 1) default).Message.Id) ↔ ¬ ∀ p, pre.getLast? = some p -> p.Message.Id < y.Message.Id := by
     cases hq : pre.getLast? with
     | none => rw [List.getLast?_eq_none_iff] at hq; subst hq; simp
     | some p =>
      rw [hprev p hq]
      have : pre.length > 0 := by
       rcases Nat.eq_zero_or_pos pre.length with h0 | h0
       ·rw [List.length_eq_zero_iff.1 h0] at hq; simp at hq
       ·exact h0
      constructor
      ·rintro ⟨_, h5⟩ h6; have := h6 p rfl; omega
      ·intro h5
       refine ⟨by omega, ?_⟩
       apply Decidable.byContradiction
       intro h6
       exact h5 fun q hq' => by cases hq'; omega
    show ¬ ((((¬ (e = 0) \/ y.Time < 1) \/ y.Time > s.Clock) \/ _) \/ _) ↔ _
    rw [h3, h4, hmo]
    constructor
    ·intro h
     refine ⟨⟨?_, ?_, ?_, ?_⟩, ?_⟩
     ·apply Decidable.byContradiction; intro q; exact h (.inl (.inl (.inl (.inl q))))
     ·apply Decidable.byContradiction; intro q; exact h (.inl (.inl (.inl (.inr (by omega)))))
     ·apply Decidable.byContradiction; intro q; exact h (.inl (.inl (.inr (by omega))))
     ·apply Classical.byContradiction; intro q; exact h (.inr q)
     ·apply Classical.byContradiction; intro q; exact h (.inl (.inr q))
    ·rintro ⟨⟨q1, q2, q3, q4⟩, q5⟩ ((((q | q) | q) | q) | q)
     ·exact q q1
     ·omega
     ·omega
     ·exact q q5
     ·exact q q4
   by_cases c1 : T1
   ·have c1' : ¬ (¬ T1 /\ (s.Done.length : Int) > 0) := fun h => h.1 c1
    show Option.bind (if ¬ T1 /\ (s.Done.length : Int) > 0 then _ else _) _ = k
    rw [if_neg c1']
    simp only [Option.bind_some]
    show Option.bind (if ¬ T1 /\ (s.Done.length : Int) > 0 then _ else _) _ = k
    rw [if_neg c1']
    simp only [Option.bind_some]
    rw [if_pos (.inl c1), k2]
    intro h
    have := hs.1 h
    exact t1.2 ⟨⟨this.1.1, this.1.2.1, this.1.2.2.1, this.1.2.2.2.1⟩, this.2⟩ c1
   ·have q := t1.1 c1
    by_cases c2 : s.Done = []
    ·have c1' : ¬ (¬ T1 /\ (s.Done.length : Int) > 0) := by rw [c2]; simp
     show Option.bind (if ¬ T1 /\ (s.Done.length : Int) > 0 then _ else _) _ = k
     rw [if_neg c1']
     simp only [Option.bind_some]
     show Option.bind (if ¬ T1 /\ (s.Done.length : Int) > 0 then _ else _) _ = k
     rw [if_neg c1']
     simp only [Option.bind_some]
     rw [if_neg, k1 (hs.2 ⟨⟨q.1.1, q.1.2.1, q.1.2.2.1, q.1.2.2.2, by rw [c2]; simp⟩, q.2⟩)]
     rintro (h | h)
     ·exact c1 h
     ·rw [c2] at h; simp at h
    ·obtain ⟨p, hp⟩ : ∃ p, s.Done.getLast? = some p := by
      cases hq : s.Done.getLast? with
      | none => rw [List.getLast?_eq_none_iff] at hq; exact absurd hq c2
      | some p => exact ⟨p, rfl⟩
     have hpos : (s.Done.length : Int) > 0 := by
      have := List.length_pos_iff.2 c2; omega
     have ep := hab p hp
     show Option.bind (if ¬ T1 /\ (s.Done.length : Int) > 0 then _ else _) _ = k
     rw [if_pos ⟨c1, hpos⟩]
     simp only [Option.bind_some]
     show Option.bind (if ¬ T1 /\ (s.Done.length : Int) > 0 then _ else _) _ = k
     rw [if_pos ⟨c1, hpos⟩]
     simp only [Option.bind_some, decide_eq_true_eq]
     show (if T1 \/ ((s.Done.length : Int) > 0 /\ ¬ ltS ⟨a, b⟩ (stW y)) then _ else _) = k
     by_cases c3 : ltS ⟨a, b⟩ (stW y)
     ·rw [if_neg, k1 (hs.2 ⟨⟨q.1.1, q.1.2.1, q.1.2.2.1, q.1.2.2.2, fun x hx => by rw [hab x hx]; exact c3⟩, q.2⟩)]
      rintro (h | h)
      ·exact c1 h
      ·exact h.2 c3
     ·rw [if_pos (.inr ⟨hpos, c3⟩), k2]
      intro h
      exact c3 (by have := (hs.1 h).1.2.2.2.2 p hp; rwa [ep] at this)
  rw [ea]
  by_cases hd : WOk s.Clock s.Done (pre ++ [y])
  ·have := ih (pre ++ [y]) (by rw [hw, ea]) hd
   rw [el] at this
   rw [key _ (fun _ => rfl) (fun h => absurd hd h)]
   exact this
  ·exact ⟨fun h => absurd h.pre hd, fun _ => key _ (fun h => absurd h hd) (fun _ => rfl)⟩
structure V (s : TSkeen) : Prop where
 c0 : 0 <= s.Clock
 c1 : s.Clock <= 1073741824
 lw : s.Waits.length <= 200
 ld : s.Done.length <= 200
 d : DOk s.Clock s.Done
 w : WOk s.Clock s.Done s.Waits
 m : ∀ y l, s.Waits = y :: l -> (minW y l).Final = false
theorem sk_check (s : TSkeen) : ∃ e, zg4 s = some e /\ (e = 0 ↔ V s) := by
 rw [zg4]
 by_cases h0 : ((s.Clock < 0 \/ s.Clock > 1073741824) \/ (s.Waits.length : Int) > 200) \/ (s.Done.length : Int) > 200
 ·rw [if_pos h0]
  refine ⟨8, rfl, (by intro h; cases h), fun h => ?_⟩
  have := h.c0; have := h.c1; have := h.lw; have := h.ld; omega
 rw [if_neg h0]
 have d0 : DOk s.Clock [] := ⟨by simp, by simp, by simp⟩
 have hc := ck1 s s.Done [] [] 0 0 d0 (by intro k; simp [mget]) (by simp)
 rw [List.nil_append] at hc
 by_cases hd : DOk s.Clock s.Done
 ·obtain ⟨m, a, b, h1, h2, h3⟩ := hc.1 hd
  have h1 : zbe s s.Done 0 [] 0 0 = _ := h1
  rw [h1]
  simp only [Option.bind_some]
  have w0 : WOk s.Clock s.Done [] := ⟨by simp, by simp [IdsUp]⟩
  have hc2 := ck2 s m a b h2 h3 s.Waits [] rfl w0
  rw [List.nil_append] at hc2
  by_cases hw : WOk s.Clock s.Done s.Waits
  ·have h4 : zbd s m a b s.Waits 0 = _ := hc2.1 hw
   rw [h4]
   simp only [Option.bind_some]
   cases hl : s.Waits with
   | nil =>
    refine ⟨0, by simp, fun _ => ⟨by omega, by omega, by omega, by omega, hd, hw, by rw [hl]; simp⟩, fun _ => rfl⟩
   | cons y l =>
    rw [if_pos (by simp only [List.length_cons]; omega), min_eq y l (by rw [hl] at h0; simp at h0; omega)]
    simp only [Option.bind_some]
    by_cases hf : (minW y l).Final = true
    ·rw [if_pos ⟨by simp only [List.length_cons]; omega, hf⟩]
     refine ⟨8, rfl, (by intro h; cases h), fun h => ?_⟩
     have := h.m y l hl
     rw [hf] at this; cases this
    ·rw [if_neg (fun h => hf h.2)]
     refine ⟨0, rfl, fun _ => ⟨by omega, by omega, by omega, by omega, hd, hw, fun y' l' h => ?_⟩, fun _ => rfl⟩
     rw [hl] at h; cases h
     simpa using hf
  ·have h4 : zbd s m a b s.Waits 0 = _ := hc2.2 hw
   rw [h4]
   simp only [Option.bind_some]
   exact ⟨8, rfl, (by intro h; cases h), fun h => absurd h.w hw⟩
 ·have h1 : zbe s s.Done 0 [] 0 0 = _ := hc.2 hd
  rw [h1]
  simp only [Option.bind_some]
  exact ⟨8, rfl, (by intro h; cases h), fun h => absurd h.d hd⟩
end Go.Proofs
end
section
namespace Go.Proofs
open Go.Tm
set_option linter.unusedSimpArgs false
theorem msg_false (m : TMessage) : ∀ (l : List Int) (n : Nat), za9 m l n false = some false := by
 intro l
 induction l with
 | nil => intro n; rfl
 | cons y l ih => intro n; rw [za9]; simpa using ih (n + 1)
theorem MsgOk.groups {m : TMessage} (h : MsgOk m) : m.Groups.length <= 4 := by
 apply Decidable.byContradiction
 intro hc
 unfold MsgOk at h
 have e : ((decide ((m.Groups.length : Int) >= 1)) && (decide ((m.Groups.length : Int) <= 4))) = false := by
  rw [Bool.and_eq_false_iff]; right; simp; omega
 rw [zar, e, msg_false] at h
 simp [cid_eq, in_eq] at h
theorem sm_eq (a b : TMessage) : ze2 a b = some (decide (a = b)) := by
 rw [ze2, equal_eq]
 obtain ⟨a1, a2, a3, a4, a5⟩ := a
 obtain ⟨b1, b2, b3, b4, b5⟩ := b
 by_cases h : a1 = b1
 ·by_cases h2 : a2 = b2 <;> by_cases h3 : a3 = b3 <;> by_cases h4 : a4 = b4 <;> by_cases h5 : a5 = b5 <;> simp [h, h2, h3, h4, h5]
 ·simp [h]
theorem cs_eq (a b : TCommand) : zgg a b = some (decide (a = b)) := by
 rw [zgg, sm_eq, equal_eq]
 obtain ⟨a1, a2, a3, a4, a5, a6, a7, a8⟩ := a
 obtain ⟨b1, b2, b3, b4, b5, b6, b7, b8⟩ := b
 by_cases h : a1 = b1
 ·by_cases h2 : a2 = b2
  ·by_cases h3 : a3 = b3
   ·by_cases h4 : a4 = b4
    ·by_cases h5 : a5 = b5 <;> by_cases h6 : a6 = b6 <;> by_cases h7 : a7 = b7 <;> by_cases h8 : a8 = b8 <;> simp [h, h2, h3, h4, h5, h6, h7, h8]
    ·simp [h, h2, h3, h4]
   ·simp [h, h2, h3]
  ·simp [h, h2]
 ·simp [h]
theorem plain_tot (c : TCommand) : ∃ p ok, ze1 c = some (p, ok) /\ (c.Kind = 1 -> ok = true -> MsgOk c.Message) /\ (c.Kind = 2 -> ok = true -> IdOk c.Id /\ 1 <= c.Time /\ c.Time <= 1073741824) := by
 rw [ze1, cid_eq]
 simp only [Option.bind_some]
 obtain ⟨v2, h2⟩ : ∃ v2, (if decide (IdOk c.Id) = true then zcz c.Topic 0 3 else some default) = some v2 := by split <;> exact ⟨_, by first | exact in_eq _ _ _ | rfl⟩
 rw [h2]
 simp only [Option.bind_some]
 obtain ⟨v3, h3⟩ : ∃ v3, (if decide (IdOk c.Id) = true /\ v2 = true then zcz c.N 0 1073741824 else some default) = some v3 := by split <;> exact ⟨_, by first | exact in_eq _ _ _ | rfl⟩
 rw [h3]
 simp only [Option.bind_some]
 by_cases k0 : c.Kind = 0
 ·rw [if_pos k0]; exact ⟨_, _, rfl, by intro h; omega, by intro h; omega⟩
 rw [if_neg k0]
 by_cases k1 : c.Kind = 1
 ·rw [if_pos k1]
  obtain ⟨e, he⟩ := (msg_tot c.Message).1
  rw [he]
  exact ⟨_, _, rfl, fun _ h => by rw [MsgOk, he]; simp at h; rw [h], by intro h; omega⟩
 rw [if_neg k1]
 by_cases k2 : c.Kind = 2
 ·rw [if_pos k2]
  by_cases hi : IdOk c.Id
  ·simp only [hi, decide_true, if_true, Option.bind_some, in_eq]
   exact ⟨_, _, rfl, by intro h; omega, fun _ h => ⟨trivial, by simpa using h⟩⟩
  ·simp only [hi, decide_false, Bool.false_eq_true, if_false, Option.bind_some]
   exact ⟨_, _, rfl, by intro h; omega, fun _ h => by simp at h⟩
 rw [if_neg k2]
 by_cases k3 : c.Kind = 3
 ·rw [if_pos k3, qcheck_eq]
  exact ⟨_, _, rfl, by intro h; omega, by intro h; omega⟩
 rw [if_neg k3]
 by_cases k4 : c.Kind = 4
 ·rw [if_pos k4]
  obtain ⟨v8, h8⟩ : ∃ v8, (if (decide (IdOk c.Id) = true /\ v2 = true) /\ v3 = true then zcz c.Who 0 7 else some default) = some v8 := by split <;> exact ⟨_, by first | exact in_eq _ _ _ | rfl⟩
  rw [h8]
  exact ⟨_, _, rfl, by intro h; omega, by intro h; omega⟩
 rw [if_neg k4]
 by_cases k5 : c.Kind = 5
 ·rw [if_pos k5]
  simp only [Option.bind_some, k5]
  exact ⟨_, _, rfl, by intro h; omega, by intro h; omega⟩
 ·rw [if_neg k5]
  simp only [Option.bind_some]
  by_cases k6 : (c.Kind == 6) = true
  ·rw [if_pos k6]; exact ⟨_, _, rfl, by intro h; omega, by intro h; omega⟩
  ·rw [if_neg k6]; exact ⟨_, _, rfl, by intro h; omega, by intro h; omega⟩
theorem cmd_tot (c : TCommand) : ∃ e, zbg c = some e /\ (e = 0 -> (c.Kind = 1 -> MsgOk c.Message) /\ (c.Kind = 2 -> IdOk c.Id /\ 1 <= c.Time /\ c.Time <= 1073741824)) := by
 obtain ⟨p, ok, h, h1, h2⟩ := plain_tot c
 rw [zbg, h]
 simp only [Option.bind_some, cs_eq]
 cases ok with
 | false => exact ⟨120, by simp, by intro h; cases h⟩
 | true =>
  simp only [not_true_eq_false, not_false_eq_true, if_true, Option.bind_some, false_or]
  split
  ·exact ⟨120, rfl, by intro h; cases h⟩
  ·exact ⟨0, rfl, fun _ => ⟨fun k => h1 k rfl, fun k => h2 k rfl⟩⟩
theorem clone_int (l : List Int) (h : l.length * 8 <= 140737488355328) : zci l = some l := by rw [zci, if_pos h]
theorem twin_loop (v : List TWait) (hv : v.length < 1000000) : ∀ (fu k : Nat) (l : List TWait), l.length = v.length -> v.length - k < fu -> k <= v.length -> (∀ w ∈ l, w.Message.Groups.length * 8 <= 140737488355328) -> zcy v fu l (k : Int) = some l := by
 intro fu
 induction fu with
 | zero => intro k l _ h; omega
 | succ fu ih =>
  intro k l hl h hk hg
  rw [zcy]
  by_cases hlt : k < v.length
  ·have hk' : k < l.length := by omega
   have hgd : l.getD (k : Int).toNat default = l[k] := by simp [List.getD, List.getElem?_eq_getElem hk']
   have hw : wr .i64 ((k : Int) + 1) = ((k + 1 : Nat) : Int) := wr_eq _ _ (by show (-9223372036854775808 : Int) <= _; omega) (by show _ <= (9223372036854775807 : Int); omega)
   rw [if_pos (by omega), if_pos (by omega), hgd, clone_int _ (hg _ (List.getElem_mem hk'))]
   simp only [Option.bind_some]
   have e : l.set (k : Int).toNat l[k] = l := by rw [Int.toNat_natCast]; simp
   rw [if_pos (by omega)]
   show zcy v fu (l.set (k : Int).toNat l[k]) (wr .i64 ((k : Int) + 1)) = _
   rw [e, hw]
   exact ih (k + 1) l hl (by omega) (by omega) hg
  ·rw [if_neg (by omega), if_pos (by omega)]
theorem twin_sk (s : TSkeen) (h1 : s.Waits.length <= 1000) (h2 : s.Done.length <= 1000) (h3 : ∀ w ∈ s.Waits, w.Message.Groups.length * 8 <= 140737488355328) : zdm s = some s := by
 rw [zdm, ze3, if_pos (by omega), zdn, if_pos (by omega)]
 simp only [Option.bind_some]
 have := twin_loop s.Waits (by omega) (s.Waits.length + 1) 0 s.Waits rfl (by omega) (by omega) h3
 rw [show ((0 : Nat) : Int) = 0 from rfl] at this
 rw [this]
 rfl
structure J (c : Int) (W : List TWait) (D : List TStamp) : Prop where
 c1 : c <= 1073741824
 d : DOk c D
 w : WOk c D W
theorem V.j {s : TSkeen} (h : V s) : J s.Clock s.Waits s.Done := ⟨h.c1, h.d, h.w⟩
theorem J.ids {c : Int} {W : List TWait} {D : List TStamp} (h : J c W D) : ∀ w ∈ W, IdOk w.Message.Id := fun w hw => (h.w.1 w hw).1.id
theorem J.mono {c c' : Int} {W : List TWait} {D : List TStamp} (h : J c W D) (h1 : c <= c') (h2 : c' <= 1073741824) : J c' W D :=
 ⟨h2, ⟨fun x hx => by have := h.d.1 x hx; exact ⟨this.1, this.2.1, by omega⟩, h.d.2⟩, ⟨fun w hw => by have := h.w.1 w hw; exact ⟨this.1, this.2.1, by have := this.2.2.1; omega, this.2.2.2⟩, h.w.2⟩⟩
theorem at_id {W : List TWait} (hu : IdsUp W) {a b : TWait} (ha : a ∈ W) (hb : b ∈ W) (h : a.Message.Id = b.Message.Id) : a = b := by
 obtain ⟨i, hi, rfl⟩ := List.getElem_of_mem ha
 obtain ⟨j, hj, rfl⟩ := List.getElem_of_mem hb
 rcases Nat.lt_trichotomy i j with hh | hh | hh
 ·have := List.pairwise_iff_getElem.1 hu i j hi hj hh; omega
 ·subst hh; rfl
 ·have := List.pairwise_iff_getElem.1 hu j i hj hi hh; omega
theorem final_eq (s : TSkeen) (id t : Int) (hl : s.Waits.length < 1000000) (hj : J s.Clock s.Waits s.Done) (hi : IdOk id) :
  (zbz ⟨s⟩ id t = some ⟨s⟩ /\ ∀ w ∈ s.Waits, w.Message.Id = id -> w.Final = true \/ t < w.Time) \/
  ∃ (k : Nat) (hk : k < s.Waits.length), s.Waits[k].Message.Id = id /\ s.Waits[k].Final = false /\ s.Waits[k].Time <= t /\ zbz ⟨s⟩ id t = some ⟨⟨max s.Clock t, s.Waits.set k ⟨s.Waits[k].Message, t, true⟩, s.Done⟩⟩ := by
 rw [zbz, find_eq ⟨s⟩ id hl hj.w.2 hj.ids hi]
 simp only [Option.bind_some]
 have hp := plc_at id s.Waits hj.w.2
 by_cases hx : ∃ w ∈ s.Waits, w.Message.Id = id
 ·obtain ⟨hk, he⟩ := hp.1 hx
  have hgd : s.Waits.getD ((plc id s.Waits : Nat) : Int).toNat default = s.Waits[plc id s.Waits] := by rw [Int.toNat_natCast]; simp [List.getD, List.getElem?_eq_getElem hk]
  have hgd2 : ∀ x : TWait, (s.Waits.set ((plc id s.Waits : Nat) : Int).toNat x).getD ((plc id s.Waits : Nat) : Int).toNat default = x := by
   intro x; rw [Int.toNat_natCast]; simp [List.getD, hk]
  simp only [hx, decide_true, not_true_eq_false, not_false_eq_true, false_or, hgd, hgd2]
  rw [if_pos (by intro _; omega), if_pos (by intro _; omega)]
  by_cases hf : s.Waits[plc id s.Waits].Final = true \/ t < s.Waits[plc id s.Waits].Time
  ·left
   rw [if_pos hf]
   refine ⟨rfl, fun w hw hid => ?_⟩
   have := at_id hj.w.2 hw (List.getElem_mem hk) (hid.trans he.symm)
   rw [this]; exact hf
  ·right
   rw [if_neg hf, if_pos (by omega), if_pos (by simp only [List.length_set]; omega)]
   refine ⟨plc id s.Waits, hk, he, ?_, by omega, ?_⟩
   ·cases hq : s.Waits[plc id s.Waits].Final with
    | false => rfl
    | true => exact absurd (.inl hq) hf
   ·rw [Int.toNat_natCast, List.set_set]
 ·left
  have hx' : ∀ w ∈ s.Waits, w.Message.Id ≠ id := fun w hw he => hx ⟨w, hw, he⟩
  simp only [hx, decide_false, Bool.false_eq_true, not_false_eq_true, not_true_eq_false, false_implies, if_true, true_or]
  exact ⟨trivial, fun w hw he => absurd he (hx' w hw)⟩
theorem J.set {c t : Int} {W : List TWait} {D : List TStamp} (h : J c W D) (k : Nat) (hk : k < W.length) (h1 : W[k].Time <= t) (h2 : t <= 1073741824) : J (max c t) (W.set k ⟨W[k].Message, t, true⟩) D := by
 have h' := h.mono (c' := max c t) (Int.le_max_left _ _) (by have := h.c1; omega)
 refine ⟨h'.c1, h'.d, fun w hw => ?_, ?_⟩
 ·rcases List.mem_or_eq_of_mem_set hw with hw | rfl
  ·exact h'.w.1 w hw
  ·have hm := h'.w.1 _ (List.getElem_mem hk)
   refine ⟨hm.1, by have := hm.2.1; show 1 <= t; omega, Int.le_max_right _ _, hm.2.2.2.1, fun x hx => ?_⟩
   have hl := hm.2.2.2.2 x hx
   show ltS x ⟨t, W[k].Message.Id⟩
   unfold ltS stW at *
   simp only at hl ⊢
   omega
 ·have hu := h.w.2
  unfold IdsUp at hu ⊢
  rw [<- List.pairwise_map (f := fun w : TWait => w.Message.Id) (R := fun a b => a < b)] at hu ⊢
  rw [List.map_set]
  have : (W.map fun w : TWait => w.Message.Id).set k W[k].Message.Id = W.map fun w : TWait => w.Message.Id := by
   apply List.ext_getElem
   ·simp
   ·intro i h1 h2
    rw [List.getElem_set]
    split
    ·rename_i e; subst e; simp
    ·rfl
  rw [this]
  exact hu
theorem assign_eq (s : TSkeen) (g : Int) (m : TMessage) (hl : s.Waits.length <= 200) (hc0 : 0 <= s.Clock) (hj : J s.Clock s.Waits s.Done) (hm : MsgOk m) :
  (∃ e, zak ⟨s⟩ g m = some (e, ⟨s⟩)) \/
  (g ∈ m.Groups /\ s.Clock < 1073741824 /\ s.Waits.length < 200 /\ (∀ x ∈ s.Done, x.Id ≠ m.Id) /\ (∀ w ∈ s.Waits, w.Message.Id ≠ m.Id) /\
   zak ⟨s⟩ g m = some (0, ⟨⟨s.Clock + 1, s.Waits.take (plc m.Id s.Waits) ++ ⟨m, s.Clock + 1, false⟩ :: s.Waits.drop (plc m.Id s.Waits), s.Done⟩⟩)) := by
 rw [zak, find_eq ⟨s⟩ m.Id (by show s.Waits.length < 1000000; omega) hj.w.2 hj.ids hm.id, done_eq]
 simp only [Option.bind_some]
 by_cases hx : ∃ w ∈ s.Waits, w.Message.Id = m.Id
 ·left
  simp only [hx, decide_true, not_true_eq_false, if_false, true_or, Option.bind_some, if_true]
  exact ⟨0, rfl⟩
 ·have hx' : ∀ w ∈ s.Waits, w.Message.Id ≠ m.Id := fun w hw he => hx ⟨w, hw, he⟩
  simp only [hx, decide_false, Bool.false_eq_true, not_false_eq_true, if_true, false_or, Option.bind_some]
  cases hd : s.Done.any fun x => x.Id == m.Id with
  | true =>
   left
   simp only [not_true_eq_false, if_false, Option.bind_some, true_or, if_true]
   exact ⟨0, rfl⟩
  | false =>
   have hd' : ∀ x ∈ s.Done, x.Id ≠ m.Id := by
    intro x hxd he
    have := List.any_eq_false.1 hd x hxd
    simp [he] at this
   have hg := contains_eq m.Groups g
   simp only [Bool.false_eq_true, not_false_eq_true, if_true, false_or, Option.bind_some, hg]
   by_cases hgm : g ∈ m.Groups
   ·simp only [hgm, decide_true, not_true_eq_false, if_false]
    by_cases hfull : s.Clock = 1073741824 \/ (s.Waits.length : Int) = 200
    ·left; rw [if_pos hfull]; exact ⟨9, rfl⟩
    ·right
     have hc1 := hj.c1
     rw [if_neg hfull, clone_int _ (by have := hm.groups; omega)]
     simp only [Option.bind_some]
     have hple := plc_le m.Id s.Waits
     rw [if_pos (by omega), if_pos (by omega), wr_eq _ _ (by show (-9223372036854775808 : Int) <= _; omega) (by show _ <= (9223372036854775807 : Int); omega), Int.toNat_natCast]
     exact ⟨trivial, by omega, by omega, hd', hx', rfl⟩
   ·left
    simp only [hgm, decide_false, Bool.false_eq_true, not_false_eq_true, if_true]
    exact ⟨0, rfl⟩
theorem J.ins {c : Int} {W : List TWait} {D : List TStamp} (h : J c W D) (m : TMessage) (hm : MsgOk m) (h0 : 0 <= c) (h1 : c < 1073741824) (hD : ∀ x ∈ D, x.Id ≠ m.Id) (hW : ∀ w ∈ W, w.Message.Id ≠ m.Id) :
  J (c + 1) (W.take (plc m.Id W) ++ ⟨m, c + 1, false⟩ :: W.drop (plc m.Id W)) D := by
 have h' := h.mono (c' := c + 1) (by omega) (by omega)
 refine ⟨h'.c1, h'.d, fun w hw => ?_, ?_⟩
 ·have : w = ⟨m, c + 1, false⟩ \/ w ∈ W := by
   rcases List.mem_append.1 hw with hw | hw
   ·exact .inr (List.mem_of_mem_take hw)
   ·rcases List.mem_cons.1 hw with hw | hw
    ·exact .inl hw
    ·exact .inr (List.mem_of_mem_drop hw)
  rcases this with rfl | hw
  ·refine ⟨hm, by show 1 <= c + 1; omega, Int.le_refl _, hD, fun x hx => ?_⟩
   have := (h.d.1 x (List.mem_of_getLast? hx)).2.2
   exact .inl (by show x.Time < c + 1; omega)
  ·exact h'.w.1 w hw
 ·have hu := h.w.2
  have hlt := plc_lt m.Id W hu
  have hple := plc_le m.Id W
  have t1 : ∀ w ∈ W.take (plc m.Id W), w.Message.Id < m.Id := by
   intro w hw
   obtain ⟨i, hi, rfl⟩ := List.getElem_of_mem hw
   rw [List.getElem_take]
   have : i < plc m.Id W := by simp at hi; omega
   exact (hlt i (by omega)).2 this
  have t2 : ∀ w ∈ W.drop (plc m.Id W), m.Id < w.Message.Id := by
   intro w hw
   have hwW := List.mem_of_mem_drop hw
   obtain ⟨i, hi, rfl⟩ := List.getElem_of_mem hw
   have hne := hW _ hwW
   rw [List.getElem_drop] at hne ⊢
   have hi' : plc m.Id W + i < W.length := by simp at hi; omega
   have : ¬ W[plc m.Id W + i].Message.Id < m.Id := fun k => by have := (hlt _ hi').1 k; omega
   omega
  unfold IdsUp
  rw [List.pairwise_append]
  refine ⟨hu.sublist (List.take_sublist _ _), List.pairwise_cons.2 ⟨t2, hu.sublist (List.drop_sublist _ _)⟩, fun a ha b hb => ?_⟩
  have ha' := t1 a ha
  rcases List.mem_cons.1 hb with rfl | hb
  ·exact ha'
  ·have := t2 b hb; omega
theorem del_loop (c0 : Tskeen_clock) (c : Int) : ∀ (fu : Nat) (W : List TWait) (D : List TStamp) (M : List TMessage), W.length < fu -> J c W D -> W.length + D.length <= 1000 -> M.length + W.length <= 1000 ->
  ∃ (ws W' : List TWait), zao c0 fu W D M = some (W', D ++ ws.map stW, M ++ ws.map TWait.Message) /\ J c W' (D ++ ws.map stW) /\ (∀ y l, W' = y :: l -> (minW y l).Final = false) /\
   (∀ w ∈ ws, w ∈ W /\ w.Final = true) /\ (∀ w ∈ W', w ∈ W) /\ (∀ w ∈ W, w ∈ W' \/ w ∈ ws) /\ W'.length + ws.length = W.length := by
 intro fu
 induction fu with
 | zero => intro W D M h; omega
 | succ fu ih =>
  intro W D M h hj h1 h2
  rw [zao]
  cases hW : W with
  | nil =>
   refine ⟨[], [], by simp, by subst hW; simpa using hj, by simp, by simp, by simp, by simp, rfl⟩
  | cons y l =>
   rw [if_pos (by simp only [List.length_cons]; omega), minw_eq y l (by rw [hW] at h1; simp at h1; omega)]
   simp only [Option.bind_some]
   have hmem : minW y l ∈ W := by
    rw [hW]
    rcases minW_mem l y with hh | hh
    ·rw [hh]; simp
    ·exact List.mem_cons_of_mem _ hh
   by_cases hf : (minW y l).Final = true
   ·rw [if_neg (by simp [hf])]
    have hfd := find_eq ⟨⟨c0.Skeen.Clock, W, D⟩⟩ (minW y l).Message.Id (by show W.length < 1000000; omega) hj.w.2 hj.ids (hj.ids _ hmem)
    rw [<- hW, hfd]
    simp only [Option.bind_some]
    obtain ⟨hk, he⟩ := (plc_at (minW y l).Message.Id W hj.w.2).1 ⟨_, hmem, rfl⟩
    generalize hK : plc (minW y l).Message.Id W = K at hk he
    have hat : W[K] = minW y l := at_id hj.w.2 (List.getElem_mem hk) hmem he
    rw [if_pos (by omega), if_pos (by omega)]
    have e1 : zep (minW y l) = some (stW (minW y l)) := rfl
    rw [e1]
    simp only [Option.bind_some, List.length_cons, List.length_nil, Int.toNat_natCast]
    have hWl : W.length = l.length + 1 := by rw [hW]; simp
    rw [if_pos (by omega), if_pos (by omega)]
    have hv := hj.w.1 _ hmem
    have hsub : ∀ w ∈ W.eraseIdx K, w ∈ W := fun w hw => List.mem_of_mem_eraseIdx hw
    have hne : ∀ w ∈ W.eraseIdx K, w.Message.Id ≠ (minW y l).Message.Id := by
     intro w hw hid
     obtain ⟨i, hi, hik, rfl⟩ := List.mem_eraseIdx_iff_getElem.1 hw
     have e2 := at_id hj.w.2 (List.getElem_mem hi) hmem hid
     rw [<- hat] at hid
     rcases Nat.lt_or_gt_of_ne hik with hh | hh
     ·have := List.pairwise_iff_getElem.1 hj.w.2 i K hi hk hh; omega
     ·have := List.pairwise_iff_getElem.1 hj.w.2 K i hk hi hh; omega
    have hle : ∀ w ∈ W, ¬ ltS (stW w) (stW (minW y l)) := by
     intro w hw
     rw [hW] at hw
     rcases List.mem_cons.1 hw with rfl | hw
     ·exact (minW_le l _).1
     ·exact (minW_le l y).2 w hw
    have hid := hv.1.id
    have hJ : J c (W.eraseIdx K) (D ++ [stW (minW y l)]) := by
     refine ⟨hj.c1, (hj.d.snoc _).2 ⟨⟨⟨?_, ?_, hid.1, ?_⟩, hv.2.1, hv.2.2.1⟩, hv.2.2.2.2, fun hm => ?_⟩, fun w hw => ?_, hj.w.2.sublist (List.eraseIdx_sublist _ _)⟩
     ·have := hv.2.1; show 0 <= (minW y l).Time; omega
     ·have := hv.2.2.1; have := hj.c1; show (minW y l).Time <= 1073741824; omega
     ·have := hid.2; show (minW y l).Message.Id < 6291456; omega
     ·obtain ⟨x, hx, he2⟩ := List.mem_map.1 hm
      exact hv.2.2.2.1 x hx he2
     ·have hw1 := hj.w.1 w (hsub w hw)
      refine ⟨hw1.1, hw1.2.1, hw1.2.2.1, fun x hx => ?_, fun x hx => ?_⟩
      ·rcases List.mem_append.1 hx with hx | hx
       ·exact hw1.2.2.2.1 x hx
       ·simp at hx; subst hx; exact fun e => hne w hw e.symm
      ·simp at hx; subst hx
       exact ltS_total (fun e => hne w hw e.symm) (hle w (hsub w hw))
    have hlen : (W.eraseIdx K).length = W.length - 1 := List.length_eraseIdx_of_lt hk
    obtain ⟨ws, W', g1, g2, g3, g4, g5, g6, g7⟩ := ih (W.eraseIdx K) (D ++ [stW (minW y l)]) (M ++ [(minW y l).Message]) (by omega) hJ (by simp; omega) (by simp; omega)
    refine ⟨minW y l :: ws, W', ?_, ?_, g3, ?_, ?_, ?_, ?_⟩
    ·rw [g1]; simp
    ·simpa using g2
    ·intro w hw
     rcases List.mem_cons.1 hw with rfl | hw
     ·exact ⟨hmem, hf⟩
     ·exact ⟨hsub w (g4 w hw).1, (g4 w hw).2⟩
    ·intro w hw; exact hsub w (g5 w hw)
    ·intro w hw
     by_cases hwv : w = minW y l
     ·right; simp [hwv]
     ·have : w ∈ W.eraseIdx K := by
       obtain ⟨i, hi, rfl⟩ := List.getElem_of_mem hw
       exact List.mem_eraseIdx_iff_getElem.2 ⟨i, hi, fun e => hwv (by subst e; exact hat), rfl⟩
      rcases g6 w this with hh | hh
      ·exact .inl hh
      ·exact .inr (List.mem_cons_of_mem _ hh)
    ·simp only [List.length_cons]; omega
   ·rw [if_pos (by simpa using hf)]
    refine ⟨[], W, by simp [hW], by simpa using hj, fun y' l' hh => ?_, by simp, by intro w hw; rw [<- hW]; exact hw, by intro w hw; left; rw [hW]; exact hw, by simp [hW]⟩
    rw [hW] at hh; cases hh; simpa using hf
def Step (s : TSkeen) (g : Int) (c : TCommand) (W : List TWait) (ck : Int) : Prop :=
 (W = s.Waits /\ ck = s.Clock) \/
 (c.Kind = 1 /\ g ∈ c.Message.Groups /\ ck = s.Clock + 1 /\ W = s.Waits.take (plc c.Message.Id s.Waits) ++ ⟨c.Message, s.Clock + 1, false⟩ :: s.Waits.drop (plc c.Message.Id s.Waits)) \/
 (c.Kind = 2 /\ ck = max s.Clock c.Time /\ ∃ (k : Nat) (hk : k < s.Waits.length), s.Waits[k].Message.Id = c.Id /\ s.Waits[k].Final = false /\ s.Waits[k].Time <= c.Time /\ W = s.Waits.set k ⟨s.Waits[k].Message, c.Time, true⟩)
def zSk : TSkeen := ⟨0, [], []⟩
theorem check_ok {s : TSkeen} (h : V s) : zg4 s = some 0 := by
 obtain ⟨e, he, hi⟩ := sk_check s
 rw [he, hi.2 h]
theorem apply_ok (s : TSkeen) (g : Int) (c : TCommand) (h : V s) :
  (∃ e, e ≠ 0 /\ zcs s g c = some (zSk, [], e) /\ (0 <= g /\ g < 4 -> zbg c = some 0 -> c.Kind = 2 -> s.Waits.length + s.Done.length > 200)) \/
  ∃ (W : List TWait) (ck : Int) (ws W' : List TWait), Step s g c W ck /\ zcs s g c = some (⟨ck, W', s.Done ++ ws.map stW⟩, ws.map TWait.Message, 0) /\ V ⟨ck, W', s.Done ++ ws.map stW⟩ /\ s.Clock <= ck /\ 
   (∀ w ∈ ws, w ∈ W /\ w.Final = true) /\ (∀ w ∈ W', w ∈ W) /\ (∀ w ∈ W, w ∈ W' \/ w ∈ ws) /\ W'.length + ws.length = W.length /\ 
   (c.Kind = 2 -> ∀ w ∈ s.Waits, w.Message.Id = c.Id -> w.Final = false -> w.Time <= c.Time -> ∃ (k : Nat) (hk : k < s.Waits.length), s.Waits[k] = w /\ W = s.Waits.set k ⟨w.Message, c.Time, true⟩) := by
 have hj := h.j
 have hlw := h.lw
 have hld := h.ld
 rw [zcs, check_ok h]
 simp only [Option.bind_some, not_true_eq_false, if_false]
 by_cases hg : g < 0 \/ g >= 4
 ·rw [if_pos hg]
  exact .inl ⟨2, by omega, rfl, by intro h; omega⟩
 rw [if_neg hg]
 obtain ⟨e, he, hc⟩ := cmd_tot c
 rw [he]
 simp only [Option.bind_some]
 by_cases he0 : e = 0
 case neg => rw [if_pos he0]; exact .inl ⟨e, he0, rfl, by intro _ h; exact absurd (Option.some.inj h) he0⟩
 obtain ⟨hc1, hc2⟩ := hc he0
 have htw : zdm s = some s := twin_sk s (by omega) (by omega) (fun w hw => by have := (hj.w.1 w hw).1.groups; omega)
 rw [if_neg (by omega), htw]
 simp only [Option.bind_some]
 -- the end: what is delivered
 have fin : ∀ (W : List TWait) (ck : Int), J ck W s.Done -> 0 <= ck -> W.length <= 200 -> ∃ (ws W' : List TWait), zc5 ⟨⟨ck, W, s.Done⟩⟩ = some (ws.map TWait.Message, ⟨⟨ck, W', s.Done ++ ws.map stW⟩⟩) /\
   ((s.Done ++ ws.map stW).length <= 200 -> V ⟨ck, W', s.Done ++ ws.map stW⟩) /\ (∀ w ∈ ws, w ∈ W /\ w.Final = true) /\ (∀ w ∈ W', w ∈ W) /\ (∀ w ∈ W, w ∈ W' \/ w ∈ ws) /\ W'.length + ws.length = W.length := by
  intro W ck hJ h0 hl
  obtain ⟨ws, W', g1, g2, g3, g4, g5, g6, g7⟩ := del_loop ⟨⟨ck, W, s.Done⟩⟩ ck (W.length + 1) W s.Done [] (by omega) hJ (by omega) (by simp; omega)
  refine ⟨ws, W', ?_, fun hd => ⟨h0, g2.c1, by show W'.length <= 200; omega, hd, g2.d, g2.w, g3⟩, g4, g5, g6, g7⟩
  rw [zc5, g1]
  simp
 by_cases k1 : c.Kind = 1
 ·rw [if_pos k1]
  rcases assign_eq s g c.Message hlw h.c0 hj (hc1 k1) with ⟨e2, ha⟩ | ⟨a1, a2, a3, a4, a5, ha⟩
  ·have ha' : zak ⟨s⟩ g c.Message = _ := ha
   rw [ha']
   simp only [Option.bind_some]
   by_cases he2 : e2 = 0
   ·rw [if_neg (by omega)]
    simp only [Option.bind_some]
    obtain ⟨ws, W', d1, d2, d3, d4, d5, d6⟩ := fin s.Waits s.Clock hj h.c0 hlw
    rw [d1]
    simp only [Option.bind_some]
    by_cases hfull : ((s.Done ++ ws.map stW).length : Int) > 200
    ·rw [if_pos hfull]; exact .inl ⟨9, by omega, rfl, by intro _ _ h; omega⟩
    ·rw [if_neg hfull]
     exact .inr ⟨s.Waits, s.Clock, ws, W', .inl ⟨rfl, rfl⟩, rfl, d2 (by omega), Int.le_refl _, d3, d4, d5, d6, by intro h; omega⟩
   ·rw [if_pos he2]
    exact .inl ⟨e2, he2, rfl, by intro _ _ h; omega⟩
  ·have ha' : zak ⟨s⟩ g c.Message = _ := ha
   rw [ha']
   simp only [Option.bind_some, not_true_eq_false, if_false]
   have hpl := plc_le c.Message.Id s.Waits
   obtain ⟨ws, W', d1, d2, d3, d4, d5, d6⟩ := fin _ _ (hj.ins c.Message (hc1 k1) h.c0 a2 a4 a5) (by have := h.c0; omega) (by simp; omega)
   rw [d1]
   simp only [Option.bind_some]
   by_cases hfull : ((s.Done ++ ws.map stW).length : Int) > 200
   ·rw [if_pos hfull]; exact .inl ⟨9, by omega, rfl, by intro _ _ h; omega⟩
   ·rw [if_neg hfull]
    exact .inr ⟨_, s.Clock + 1, ws, W', .inr (.inl ⟨k1, a1, rfl, rfl⟩), rfl, d2 (by omega), by omega, d3, d4, d5, d6, by intro h; omega⟩
 rw [if_neg k1]
 by_cases k2 : c.Kind = 2
 ·rw [if_pos k2]
  obtain ⟨i1, i2, i3⟩ := hc2 k2
  rcases final_eq s c.Id c.Time (by omega) hj i1 with ⟨hf, hno⟩ | ⟨k, hk, b1, b2, b3, hf⟩
  ·have hf' : zbz ⟨s⟩ c.Id c.Time = _ := hf
   rw [hf']
   simp only [Option.bind_some]
   obtain ⟨ws, W', d1, d2, d3, d4, d5, d6⟩ := fin s.Waits s.Clock hj h.c0 hlw
   rw [d1]
   simp only [Option.bind_some]
   by_cases hfull : ((s.Done ++ ws.map stW).length : Int) > 200
   ·rw [if_pos hfull]
    refine .inl ⟨9, by omega, rfl, fun _ _ _ => ?_⟩
    simp at hfull; omega
   ·rw [if_neg hfull]
    refine .inr ⟨s.Waits, s.Clock, ws, W', .inl ⟨rfl, rfl⟩, rfl, d2 (by omega), Int.le_refl _, d3, d4, d5, d6, fun _ w hw hid hfn ht => ?_⟩
    rcases hno w hw hid with hh | hh
    ·rw [hfn] at hh; cases hh
    ·omega
  ·have hf' : zbz ⟨s⟩ c.Id c.Time = _ := hf
   rw [hf']
   simp only [Option.bind_some]
   obtain ⟨ws, W', d1, d2, d3, d4, d5, d6⟩ := fin _ _ (hj.set k hk b3 i3) (by have := h.c0; have := Int.le_max_left s.Clock c.Time; omega) (by simpa using hlw)
   rw [d1]
   simp only [Option.bind_some]
   by_cases hfull : ((s.Done ++ ws.map stW).length : Int) > 200
   ·rw [if_pos hfull]
    refine .inl ⟨9, by omega, rfl, fun _ _ _ => ?_⟩
    simp at hfull d6; omega
   ·rw [if_neg hfull]
    refine .inr ⟨_, max s.Clock c.Time, ws, W', .inr (.inr ⟨k2, rfl, k, hk, b1, b2, b3, rfl⟩), rfl, d2 (by omega), Int.le_max_left _ _, d3, d4, d5, d6, fun _ w hw hid hfn ht => ?_⟩
    have := at_id hj.w.2 hw (List.getElem_mem hk) (hid.trans b1.symm)
    exact ⟨k, hk, this.symm, by rw [this]⟩
 ·rw [if_neg k2]
  simp only [Option.bind_some]
  obtain ⟨ws, W', d1, d2, d3, d4, d5, d6⟩ := fin s.Waits s.Clock hj h.c0 hlw
  rw [d1]
  simp only [Option.bind_some]
  by_cases hfull : ((s.Done ++ ws.map stW).length : Int) > 200
  ·rw [if_pos hfull]; exact .inl ⟨9, by omega, rfl, by intro _ _ h; omega⟩
  ·rw [if_neg hfull]
   exact .inr ⟨s.Waits, s.Clock, ws, W', .inl ⟨rfl, rfl⟩, rfl, d2 (by omega), Int.le_refl _, d3, d4, d5, d6, by intro h; omega⟩
end Go.Proofs
end
section
namespace Go.Proofs
open Go.Tm
set_option linter.unusedSimpArgs false
set_option linter.unusedVariables false
theorem wr_ok (x : Int) (h : -9000000000000000000 <= x /\ x <= 9000000000000000000) : wr .i64 x = x := wr_eq _ _ (by show (-9223372036854775808 : Int) <= _; omega) (by show _ <= (9223372036854775807 : Int); omega)
theorem sameInts_loop (b : List Int) : ∀ (l : List Int) (n : Nat), n + l.length = b.length -> zap b l n = some (if l = b.drop n then .inr () else .inl false) := by
 intro l
 induction l with
 | nil => intro n h; simp [zap]; simp at h; omega
 | cons y l ih =>
  intro n h
  simp only [List.length_cons] at h
  have hn : n < b.length := by omega
  have hg : b.getD n default = b[n] := by simp [List.getD, List.getElem?_eq_getElem hn]
  have hd := List.drop_eq_getElem_cons hn
  rw [zap, if_pos hn, hg]
  generalize b[n] = z at hd
  rw [hd]
  by_cases hy : y = z
  ·rw [if_neg (by simpa using hy), ih (n + 1) (by omega)]
   simp only [hy, List.cons.injEq, true_and]
  ·rw [if_pos hy]
   simp only [hy, List.cons.injEq, false_and, if_false]
theorem sameInts_eq (a b : List Int) : zcc a b = some (decide (a = b)) := by
 rw [zcc]
 by_cases h : (a.length : Int) = (b.length : Int)
 ·rw [if_neg (by simpa using h), sameInts_loop b a 0 (by omega), List.drop_zero]
  by_cases hab : a = b <;> simp [hab]
 ·rw [if_pos h]
  have : a ≠ b := fun hh => h (by rw [hh])
  simp [this]
theorem sm12_eq (a b : TMessage) : zb5 a b = some (decide (a = b)) := by
 rw [zb5, sameInts_eq]
 obtain ⟨a1, a2, a3, a4, a5⟩ := a
 obtain ⟨b1, b2, b3, b4, b5⟩ := b
 by_cases h : a1 = b1
 ·by_cases h2 : a2 = b2 <;> by_cases h3 : a3 = b3 <;> by_cases h4 : a4 = b4 <;> by_cases h5 : a5 = b5 <;> simp [h, h2, h3, h4, h5]
 ·simp [h]
theorem ss_loop (b : List TStamp) : ∀ (l : List TStamp) (n : Nat), n + l.length = b.length -> zam b l n = some (if l = b.drop n then .inr () else .inl false) := by
 intro l
 induction l with
 | nil => intro n h; simp [zam]; simp at h; omega
 | cons y l ih =>
  intro n h
  simp only [List.length_cons] at h
  have hn : n < b.length := by omega
  have hg : b.getD n default = b[n] := by simp [List.getD, List.getElem?_eq_getElem hn]
  have hd := List.drop_eq_getElem_cons hn
  rw [zam, if_pos hn, hg]
  generalize b[n] = z at hd
  rw [hd]
  have he : (y.Time = z.Time /\ y.Id = z.Id) ↔ y = z := by
   obtain ⟨y1, y2⟩ := y; obtain ⟨z1, z2⟩ := z; simp
  by_cases hy : y = z
  ·rw [if_neg (by rw [he]; simpa using hy), ih (n + 1) (by omega)]
   simp only [hy, List.cons.injEq, true_and]
  ·rw [if_pos (by rw [he]; exact hy)]
   simp only [hy, List.cons.injEq, false_and, if_false]
theorem ss_eq (a b : List TStamp) : zc3 a b = some (decide (a = b)) := by
 rw [zc3]
 by_cases h : (a.length : Int) = (b.length : Int)
 ·rw [if_neg (by simpa using h), ss_loop b a 0 (by omega), List.drop_zero]
  by_cases hab : a = b <;> simp [hab]
 ·rw [if_pos h]
  have : a ≠ b := fun hh => h (by rw [hh])
  simp [this]
end Go.Proofs
end
section
namespace Go.Proofs
open Go.Tm
set_option linter.unusedSimpArgs false
theorem nin_tot (n : Int) : ∃ b, zkm n = some b /\ (b = true -> 0 <= n /\ n <= 1099511627776) := by
 rw [zkm]
 refine ⟨_, rfl, fun h => ?_⟩
 simp at h
 omega
structure GetOk (l : List Int) (r : Int × Int × Int) : Prop where
 s0 : 0 <= r.2.1
 s1 : r.2.1 <= l.length
 n0 : r.2.2 = 0 -> 0 <= r.1 /\ r.1 <= 1099511627776
theorem get_loop : ∀ (l : List Int) (k : Nat) (n : Int), (∃ u, zcb l k n = some (.inr u)) \/ ∃ a b, zcb l k n = some (.inl (a, b, 0)) /\ 0 <= b /\ b <= k + l.length /\ 0 <= a /\ a <= 1099511627776 := by
 intro l
 induction l with
 | nil => intro k n; exact .inl ⟨(), rfl⟩
 | cons y l ih =>
  intro k n
  rw [zcb]
  by_cases h5 : (k : Int) > 5
  ·rw [if_pos h5]; exact .inl ⟨(), rfl⟩
  rw [if_neg h5, if_pos (by rw [wr_ok _ (by omega)]; omega)]
  by_cases h7 : y > 127
  ·rw [if_pos h7]
   rcases ih (k + 1) _ with h | ⟨a, b, h, h1, h2, h3⟩
   ·exact .inl h
   ·exact .inr ⟨a, b, h, h1, by simp only [List.length_cons]; omega, h3⟩
  ·rw [if_neg h7]
   by_cases h0 : y = 0 /\ (k : Int) > 0
   ·rw [if_neg (fun h => h h0)]
    simp only [Option.bind_some]
    rw [if_pos (.inl h0)]
    exact .inl ⟨(), rfl⟩
   ·rw [if_pos h0]
    obtain ⟨b, hb, hb2⟩ := nin_tot (bitw .or .i64 n (shw true .i64 (wr .i64 (bitw .and .u8 y 127)) (wr .i64 (7 * (k : Int)))))
    rw [hb]
    simp only [Option.bind_some]
    by_cases hbt : b = true
    ·rw [if_neg (by rintro (h | h); exact h0 h; exact h hbt), wr_ok ((k : Int) + 1) (by omega)]
     exact .inr ⟨_, _, rfl, by omega, by simp only [List.length_cons]; omega, hb2 hbt⟩
    ·rw [if_pos (.inr hbt)]
     exact .inl ⟨(), rfl⟩
theorem get_tot (l : List Int) : ∃ r, zes l = some r /\ GetOk l r := by
 rw [zes]
 rcases get_loop l 0 0 with ⟨u, h⟩ | ⟨a, b, h, h1, h2, h3⟩
 ·rw [h]; exact ⟨_, rfl, by show (0 : Int) <= 0; omega, by show (0 : Int) <= _; omega, by intro h; cases h⟩
 ·rw [h]; exact ⟨_, rfl, h1, by show b <= _; omega, fun _ => h3⟩
theorem gettext_tot (l : List Int) (hl : l.length <= 1000000) : ∃ r, zed l = some r /\ 0 <= r.2.1 /\ r.2.1 <= l.length := by
 obtain ⟨v, hv, ho⟩ := get_tot l
 have h1 := ho.s0
 have h2 := ho.s1
 rw [zed, hv]
 simp only [Option.bind_some]
 by_cases hc : (¬ v.2.2 = 0 \/ v.1 > 4096) \/ v.1 > wr .i64 ((l.length : Int) - v.2.1)
 ·rw [if_pos hc]; exact ⟨_, rfl, by show (0 : Int) <= 0; omega, by show (0 : Int) <= _; omega⟩
 ·rw [if_neg hc]
  rw [wr_ok _ (by omega)] at hc
  have h3 := ho.n0 (by omega)
  rw [wr_ok _ (by omega), if_pos (by omega)]
  exact ⟨_, rfl, by show (0 : Int) <= v.2.1 + v.1; omega, by show v.2.1 + v.1 <= _; omega⟩
theorem getints_loop (l : List Int) (hl : l.length <= 1000000) (v : Int × Int × Int) : ∀ (fu : Nat) (acc : List Int) (at' k : Int), (v.1 - k).toNat < fu -> 0 <= at' -> at' <= l.length -> 0 <= k -> v.1 <= 4096 -> (acc.length : Int) <= k ->
  (∃ e, zbs l v fu acc at' k = some (.inl ([], 0, e))) \/ ∃ acc' at2, zbs l v fu acc at' k = some (.inr (acc', at2)) /\ 0 <= at2 /\ at2 <= l.length := by
 intro fu
 induction fu with
 | zero => intro acc at' k h; omega
 | succ fu ih =>
  intro acc at' k h h0 h1 hk hv ha
  rw [zbs]
  by_cases hlt : k < v.1
  ·obtain ⟨r, hr, ho⟩ := get_tot (l.drop at'.toNat)
   have q1 := ho.s0
   have q2 := ho.s1
   simp only [List.length_drop] at q2
   rw [if_pos hlt, if_pos ⟨h0, h1⟩, hr]
   simp only [Option.bind_some]
   by_cases he : ¬ r.2.2 = 0
   ·rw [if_pos he]; exact .inl ⟨_, rfl⟩
   ·rw [if_neg he, if_pos (by simp; omega), wr_ok (at' + r.2.1) (by omega), wr_ok (k + 1) (by omega)]
    exact ih _ _ _ (by omega) (by omega) (by omega) (by omega) hv (by simp; omega)
  ·rw [if_neg hlt]; exact .inr ⟨_, _, rfl, h0, h1⟩
theorem getints_tot (l : List Int) (hl : l.length <= 1000000) (m : Int) : ∃ r, zee l m = some r /\ 0 <= r.2.1 /\ r.2.1 <= l.length := by
 rw [zee]
 by_cases hm : m < 0 \/ m > 4096
 ·rw [if_pos hm]; exact ⟨_, rfl, by show (0 : Int) <= 0; omega, by show (0 : Int) <= _; omega⟩
 rw [if_neg hm]
 obtain ⟨v, hv, ho⟩ := get_tot l
 rw [hv]
 simp only [Option.bind_some]
 by_cases hc : ¬ v.2.2 = 0 \/ v.1 > m
 ·rw [if_pos hc]; exact ⟨_, rfl, by show (0 : Int) <= 0; omega, by show (0 : Int) <= _; omega⟩
 rw [if_neg hc]
 rcases getints_loop l hl v (v.1.toNat + 1) [] v.2.1 0 (by omega) ho.s0 ho.s1 (by omega) (by omega) (by simp) with ⟨e, h⟩ | ⟨a, b, h, h1, h2⟩
 ·rw [h]; exact ⟨_, rfl, by show (0 : Int) <= 0; omega, by show (0 : Int) <= _; omega⟩
 ·rw [h]; exact ⟨_, rfl, h1, h2⟩
theorem take_tot (r : Tcommand_reader) (n e : Int) (h : 0 <= n) : ∃ r', zbx r n e = some r' /\ r'.fB.length <= r.fB.length := by
 rw [zbx, if_pos (by omega)]
 exact ⟨_, rfl, by simp⟩
theorem zfq (r : Tcommand_reader) : ∃ x, zaa r = some x /\ x.2.fB.length <= r.fB.length := by
 obtain ⟨v, hv, ho⟩ := get_tot r.fB
 obtain ⟨r', h1, h2⟩ := take_tot r v.2.1 v.2.2 ho.s0
 rw [zaa, hv]
 simp only [Option.bind_some, h1]
 exact ⟨_, rfl, h2⟩
theorem text_tot (r : Tcommand_reader) (hl : r.fB.length <= 1000000) : ∃ x, zc6 r = some x /\ x.2.fB.length <= r.fB.length := by
 obtain ⟨v, hv, h0, _⟩ := gettext_tot r.fB hl
 obtain ⟨r', h1, h2⟩ := take_tot r v.2.1 v.2.2 h0
 rw [zc6, hv]
 simp only [Option.bind_some, h1]
 exact ⟨_, rfl, h2⟩
theorem ints_tot (r : Tcommand_reader) (hl : r.fB.length <= 1000000) (m : Int) : ∃ x, zc7 r m = some x /\ x.2.fB.length <= r.fB.length := by
 obtain ⟨v, hv, h0, _⟩ := getints_tot r.fB hl m
 obtain ⟨r', h1, h2⟩ := take_tot r v.2.1 v.2.2 h0
 rw [zc7, hv]
 simp only [Option.bind_some, h1]
 exact ⟨_, rfl, h2⟩
theorem command_tot (r : Tcommand_reader) (hl : r.fB.length <= 1000000) : ∃ x, zbt r = some x := by
 obtain ⟨v1, h1, l1⟩ := zfq r
 rw [zbt, h1]
 simp only [Option.bind_some]
 by_cases k1 : wr .u8 (min v1.1 255) = 1
 ·obtain ⟨v2, h2, l2⟩ := zfq v1.2
  obtain ⟨v3, h3, l3⟩ := ints_tot v2.2 (by omega) 4
  obtain ⟨v4, h4, l4⟩ := zfq v3.2
  obtain ⟨v5, h5, l5⟩ := text_tot v4.2 (by omega)
  obtain ⟨v6, h6, l6⟩ := text_tot v5.2 (by omega)
  simp only [k1, if_true, h2, h3, h4, h5, h6, Option.bind_some]
  exact ⟨_, rfl⟩
 by_cases k2 : wr .u8 (min v1.1 255) = 2
 ·obtain ⟨v2, h2, l2⟩ := zfq v1.2
  obtain ⟨v3, h3, l3⟩ := zfq v2.2
  rw [if_neg k1, if_pos k2, h2]
  simp only [Option.bind_some, h3]
  exact ⟨_, rfl⟩
 by_cases k3 : wr .u8 (min v1.1 255) = 3
 ·obtain ⟨v2, h2, l2⟩ := ints_tot v1.2 (by omega) 6
  rw [if_neg k1, if_neg k2, if_pos k3, h2]
  simp only [Option.bind_some]
  exact ⟨_, rfl⟩
 rw [if_neg k1, if_neg k2, if_neg k3]
 obtain ⟨b2, hb2⟩ : ∃ b2, (if (wr .u8 (min v1.1 255)) = 4 then some ((wr .u8 (min v1.1 255)) == 4) else if (wr .u8 (min v1.1 255)) = 5 then some ((wr .u8 (min v1.1 255)) == 5) else some ((wr .u8 (min v1.1 255)) == 6)) = some b2 := by
  split
  ·exact ⟨_, rfl⟩
  ·split <;> exact ⟨_, rfl⟩
 rw [hb2]
 simp only [Option.bind_some]
 by_cases hb : b2 = true
 ·rw [if_pos hb]
  obtain ⟨v2, h2, l2⟩ := zfq v1.2
  obtain ⟨v3, h3, l3⟩ := zfq v2.2
  simp only [h2, h3, Option.bind_some]
  by_cases k4 : wr .u8 (min v1.1 255) = 4
  ·obtain ⟨v4, h4, l4⟩ := zfq v3.2
   obtain ⟨v5, h5, l5⟩ := zfq ⟨v4.2.fB, v4.2.fOk⟩
   rw [if_pos k4, h4]
   simp only [Option.bind_some, h5]
   exact ⟨_, rfl⟩
  ·obtain ⟨v5, h5, l5⟩ := zfq ⟨v3.2.fB, v3.2.fOk⟩
   rw [if_neg k4]
   simp only [Option.bind_some, h5]
   exact ⟨_, rfl⟩
 ·rw [if_neg hb]
  exact ⟨_, rfl⟩
theorem zmm (s : List UInt8) : ∃ r, zc4 s = some r := by
 rw [zc4]
 by_cases h : (s.length : Int) > 1024
 ·rw [if_pos h]; exact ⟨_, rfl⟩
 rw [if_neg h]
 obtain ⟨x, hx⟩ := command_tot ⟨zft s, true⟩ (by simp [zft]; omega)
 rw [hx]
 simp only [Option.bind_some]
 by_cases hc : (¬ (x.2.fOk = true)) \/ ((x.2.fB.length : Int) > 0)
 ·rw [if_neg (fun h => h hc)]
  simp only [Option.bind_some]
  rw [if_pos (.inl hc)]
  exact ⟨_, rfl⟩
 ·rw [if_pos hc]
  obtain ⟨e, he, _⟩ := cmd_tot x.1
  rw [he]
  simp only [Option.bind_some]
  split <;> exact ⟨_, rfl⟩
def cmdsS : List (List UInt8) -> Option (List TCommand)
 | [] => some []
 | s :: l => match zc4 s with
  | some (c, e) => if e = 0 then (cmdsS l).map (c :: ·) else none
  | none => none
theorem cmds_len : ∀ (l : List (List UInt8)) (cs : List TCommand), cmdsS l = some cs -> cs.length = l.length := by
 intro l
 induction l with
 | nil => intro cs h; simp [cmdsS] at h; simp [<- h]
 | cons s l ih =>
  intro cs h
  obtain ⟨⟨c, e⟩, hr⟩ := zmm s
  simp only [cmdsS, hr] at h
  split at h
  ·obtain ⟨ds, hd, rfl⟩ := Option.map_eq_some_iff.1 h
   simp [ih ds hd]
  ·cases h
theorem cmds_loop : ∀ (l : List (List UInt8)) (acc : List TCommand), acc.length + l.length < 1000000 -> zcw l acc = some (match cmdsS l with | some cs => .inr (acc ++ cs) | none => .inl ([], 8)) := by
 intro l
 induction l with
 | nil => intro acc _; simp [zh8, cmdsS]
 | cons s l ih =>
  intro acc h
  simp only [List.length_cons] at h
  obtain ⟨⟨c, e⟩, hr⟩ := zmm s
  rw [zh9, hr]
  simp only [Option.bind_some, cmdsS, hr]
  by_cases he : e = 0
  ·rw [if_neg (by simpa using he), if_pos (by simp; omega), ih _ (by simp; omega), if_pos he]
   cases cmdsS l <;> simp
  ·rw [if_pos he, if_neg he]
theorem cmds_eq (l : List (List UInt8)) : zev l = some (if (l.length : Int) > 200 then (([], 4) : List TCommand × Int) else match cmdsS l with | some cs => (cs, 0) | none => ([], 8)) := by
 rw [zev]
 by_cases h : (l.length : Int) > 200
 ·rw [if_pos h, if_pos h]
 ·rw [if_neg h, if_neg h, cmds_loop l [] (by simp; omega)]
  cases cmdsS l <;> rfl
def stp (g : Int) (s : TSkeen) (c : TCommand) : TSkeen × List TMessage := match zcs s g c with
 | some r => if r.2.2 = 0 then (r.1, r.2.1) else (s, [])
 | none => (s, [])
theorem stp_ok {g : Int} {s : TSkeen} {c : TCommand} (h : V s) : ∃ r, zcs s g c = some r /\ V (stp g s c).1 /\ s.Clock <= (stp g s c).1.Clock /\ (∃ d : List TStamp, (stp g s c).1.Done = s.Done ++ d /\ d.length = (stp g s c).2.length) /\
  ((¬ r.2.2 = 0 /\ stp g s c = (s, [])) \/ (r.2.2 = 0 /\ stp g s c = (r.1, r.2.1))) := by
 rcases apply_ok s g c h with ⟨e, he, ha, _⟩ | ⟨W, ck, ws, W', _, ha, hV, hck, _⟩
 ·have : stp g s c = (s, []) := by simp only [stp, ha, if_neg he]
  rw [this]
  exact ⟨_, ha, h, Int.le_refl _, ⟨[], by simp, rfl⟩, .inl ⟨he, rfl⟩⟩
 ·have : stp g s c = (⟨ck, W', s.Done ++ ws.map stW⟩, ws.map TWait.Message) := by simp only [stp, ha, if_true]
  rw [this]
  exact ⟨_, ha, hV, hck, ⟨ws.map stW, rfl, by simp⟩, .inr ⟨rfl, rfl⟩⟩
def fin (g : Int) : TSkeen -> List TCommand -> TSkeen
 | s, [] => s
 | s, c :: l => fin g (stp g s c).1 l
def outs (g : Int) : TSkeen -> List TCommand -> List TMessage
 | _, [] => []
 | s, c :: l => (stp g s c).2 ++ outs g (stp g s c).1 l
def tms (g : Int) : TSkeen -> List TCommand -> List Torder_given
 | _, [] => []
 | s, c :: l => (if ((stp g s c).1.Waits.length : Int) > (s.Waits.length : Int) then [⟨(stp g s c).1.Clock, c.Message⟩] else []) ++ tms g (stp g s c).1 l
theorem fin_v (g : Int) : ∀ (l : List TCommand) (s : TSkeen), V s -> V (fin g s l) /\ s.Clock <= (fin g s l).Clock /\ ∃ d : List TStamp, (fin g s l).Done = s.Done ++ d /\ d.length = (outs g s l).length := by
 intro l
 induction l with
 | nil => intro s h; exact ⟨h, Int.le_refl _, [], by simp [fin], rfl⟩
 | cons c l ih =>
  intro s h
  obtain ⟨r, _, h1, h2, ⟨d, h3, h4⟩, _⟩ := stp_ok (g := g) (c := c) h
  obtain ⟨k1, k2, e, k3, k4⟩ := ih _ h1
  exact ⟨k1, Int.le_trans h2 k2, d ++ e, by rw [fin, k3, h3, List.append_assoc], by simp [outs, h4, k4]⟩
theorem tms_len (g : Int) : ∀ (l : List TCommand) (s : TSkeen), (tms g s l).length <= l.length := by
 intro l
 induction l with
 | nil => intro s; simp [tms]
 | cons c l ih =>
  intro s
  have := ih (stp g s c).1
  rw [tms]
  split <;> simp <;> omega
theorem playP_loop (g : Int) : ∀ (l : List TCommand) (s : TSkeen) (out : List TMessage), V s -> out.length = s.Done.length -> zbl g l out s.Clock s.Waits s.Done = some (out ++ outs g s l, (fin g s l).Clock, (fin g s l).Waits, (fin g s l).Done) := by
 intro l
 induction l with
 | nil => intro s out _ _; simp [zbl, outs, fin]
 | cons c l ih =>
  intro s out h ho
  obtain ⟨r, hr, h1, h2, ⟨d, h3, h4⟩, h5⟩ := stp_ok (g := g) (c := c) h
  have hld := h1.ld
  have hlo : out.length + (stp g s c).2.length = (stp g s c).1.Done.length := by rw [h3, ho]; simp [h4]
  rw [zbl]
  have hr' : zcs ⟨s.Clock, s.Waits, s.Done⟩ g c = some r := hr
  rw [hr']
  simp only [Option.bind_some, fin, outs]
  rcases h5 with ⟨he, hs⟩ | ⟨he, hs⟩
  ·rw [hs] at h1 hlo ⊢
   rw [if_pos he]
   simp only [Option.bind_some, zgf]
   have hlo2 : out.length <= 200 := by have := h.ld; omega
   rw [if_pos (by simp; omega)]
   simp only [Option.bind_some]
   have := ih s (out ++ []) h1 (by simpa using hlo)
   simpa using this
  ·rw [hs] at h1 hlo ⊢
   rw [if_neg (by simpa using he)]
   simp only [Option.bind_some, zgf]
   have hl3 : out.length + r.2.1.length = r.1.Done.length := hlo
   have hl4 := h1.ld
   have hl4 : r.1.Done.length <= 200 := hl4
   rw [if_pos (by omega)]
   simp only [Option.bind_some]
   have := ih r.1 (out ++ r.2.1) h1 (by simpa using hlo)
   simpa [List.append_assoc] using this
theorem playT_loop (g : Int) : ∀ (l : List TCommand) (s : TSkeen) (out : List Torder_given), V s -> out.length + l.length < 1000000 -> zba g l out s.Clock s.Waits s.Done = some (out ++ tms g s l, (fin g s l).Clock, (fin g s l).Waits, (fin g s l).Done) := by
 intro l
 induction l with
 | nil => intro s out _ _; simp [zba, tms, fin]
 | cons c l ih =>
  intro s out h ho
  simp only [List.length_cons] at ho
  obtain ⟨r, hr, h1, h2, _, h5⟩ := stp_ok (g := g) (c := c) h
  rw [zba]
  have hr' : zcs ⟨s.Clock, s.Waits, s.Done⟩ g c = some r := hr
  rw [hr']
  simp only [Option.bind_some, fin, tms]
  rcases h5 with ⟨he, hs⟩ | ⟨he, hs⟩
  ·rw [hs] at h1 ⊢
   rw [if_pos he]
   simp only [Option.bind_some, zfz]
   rw [if_neg (by omega), if_neg (by omega)]
   simp only [Option.bind_some]
   have := ih s out h1 (by omega)
   simpa using this
  ·rw [hs] at h1 ⊢
   rw [if_neg (by simpa using he)]
   simp only [Option.bind_some, zfz]
   by_cases hw : (r.1.Waits.length : Int) > (s.Waits.length : Int)
   ·rw [if_pos hw, if_pos hw, if_pos (by simp; omega)]
    simp only [Option.bind_some]
    have := ih r.1 (out ++ [⟨r.1.Clock, c.Message⟩]) h1 (by simp; omega)
    simpa [List.append_assoc] using this
   ·rw [if_neg hw, if_neg hw]
    simp only [Option.bind_some]
    have := ih r.1 out h1 (by omega)
    simpa using this
theorem V_zero : V ⟨0, [], []⟩ := ⟨by decide, by decide, by decide, by decide, ⟨by simp, by simp, by simp⟩, ⟨by simp, by simp [IdsUp]⟩, by simp⟩
def askS (g : Int) (l : List (List UInt8)) : Int := if g < 0 \/ g >= 4 then 2 else if (l.length : Int) > 200 then 4 else if cmdsS l = none then 8 else 0
theorem twin_v {s : TSkeen} (h : V s) : zdm s = some s := twin_sk s (by have := h.lw; omega) (by have := h.ld; omega) (fun w hw => by have := (h.w.1 w hw).1.groups; omega)
theorem play_eq (g : Int) (l : List (List UInt8)) : (∃ e, e ≠ 0 /\ askS g l = e /\ zf9 g l = some (zSk, [], e)) \/
  ∃ cs, askS g l = 0 /\ cmdsS l = some cs /\ l.length <= 200 /\ zf9 g l = some (fin g zSk cs, outs g zSk cs, 0) := by
 rw [zf9, zg5]
 unfold askS
 by_cases hg : g < 0 \/ g >= 4
 ·rw [if_pos hg, if_pos hg]; exact .inl ⟨2, by omega, rfl, rfl⟩
 rw [if_neg hg, if_neg hg, cmds_eq]
 by_cases hl : (l.length : Int) > 200
 ·rw [if_pos hl, if_pos hl]; exact .inl ⟨4, by omega, rfl, rfl⟩
 rw [if_neg hl, if_neg hl]
 cases hc : cmdsS l with
 | none => exact .inl ⟨8, by omega, rfl, rfl⟩
 | some cs =>
  right
  refine ⟨cs, by simp, rfl, by omega, ?_⟩
  simp only [Option.bind_some, not_true_eq_false, if_false]
  have h1 := playP_loop g cs zSk [] V_zero rfl
  have h1 : zbl g cs [] 0 [] [] = _ := h1
  have h2 := twin_v (fin_v g cs zSk V_zero).1
  rw [zgp]
  simp only [Option.bind_some, h1]
  have h2 : zdm ⟨(fin g zSk cs).Clock, (fin g zSk cs).Waits, (fin g zSk cs).Done⟩ = _ := h2
  rw [h2]
  simp
theorem local_loop : ∀ (l : List Torder_given) (acc : List TStamp), acc.length + l.length < 1000000 -> zd8 l acc = some (acc ++ l.map fun x => (⟨x.fTime, x.fM.Id⟩ : TStamp)) := by
 intro l
 induction l with
 | nil => intro acc _; simp [zho]
 | cons y l ih =>
  intro acc h
  simp only [List.length_cons] at h
  rw [zhp, if_pos (by simp; omega), ih _ (by simp; omega)]
  simp
theorem local_eq (g : Int) (l : List (List UInt8)) : (∃ e, e ≠ 0 /\ askS g l = e /\ zer g l = some ([], e)) \/
  ∃ cs, askS g l = 0 /\ cmdsS l = some cs /\ l.length <= 200 /\ zer g l = some ((tms g zSk cs).map fun x => (⟨x.fTime, x.fM.Id⟩ : TStamp), 0) := by
 rw [zer, zh2, zfv]
 unfold askS
 by_cases hg : g < 0 \/ g >= 4
 ·rw [if_pos hg, if_pos hg]; exact .inl ⟨2, by omega, rfl, rfl⟩
 rw [if_neg hg, if_neg hg, cmds_eq]
 by_cases hl : (l.length : Int) > 200
 ·rw [if_pos hl, if_pos hl]; exact .inl ⟨4, by omega, rfl, rfl⟩
 rw [if_neg hl, if_neg hl]
 cases hc : cmdsS l with
 | none => exact .inl ⟨8, by omega, rfl, rfl⟩
 | some cs =>
  right
  have hcl := cmds_len l cs hc
  refine ⟨cs, by simp, rfl, by omega, ?_⟩
  simp only [Option.bind_some, not_true_eq_false, if_false]
  have h1 := playT_loop g cs zSk [] V_zero (by simp; omega)
  have h1 : zba g cs [] 0 [] [] = _ := h1
  have h2 := twin_v (fin_v g cs zSk V_zero).1
  rw [zgp]
  simp only [Option.bind_some, h1]
  have h2 : zdm ⟨(fin g zSk cs).Clock, (fin g zSk cs).Waits, (fin g zSk cs).Done⟩ = _ := h2
  rw [h2]
  have h3 := tms_len g cs zSk
  simp only [Option.bind_some, List.nil_append, local_loop (tms g zSk cs) [] (by simp; omega)]
theorem sms_loop (b : List TMessage) : ∀ (l : List TMessage) (n : Nat), n + l.length = b.length -> zah b l n = some (if l = b.drop n then .inr () else .inl false) := by
 intro l
 induction l with
 | nil => intro n h; simp [zah]; simp at h; omega
 | cons y l ih =>
  intro n h
  simp only [List.length_cons] at h
  have hn : n < b.length := by omega
  have hg : b.getD n default = b[n] := by simp [List.getD, List.getElem?_eq_getElem hn]
  have hd := List.drop_eq_getElem_cons hn
  rw [zah, if_pos hn, hg, sm12_eq]
  generalize b[n] = z at hd
  rw [hd]
  simp only [Option.bind_some, decide_eq_true_eq]
  by_cases hy : y = z
  ·rw [if_neg (by simpa using hy), ih (n + 1) (by omega)]
   simp only [hy, List.cons.injEq, true_and]
  ·rw [if_pos hy]
   simp only [hy, List.cons.injEq, false_and, if_false]
theorem sms_eq (a b : List TMessage) : zca a b = some (decide (a = b)) := by
 rw [zca]
 by_cases h : (a.length : Int) = (b.length : Int)
 ·rw [if_neg (by simpa using h), sms_loop b a 0 (by omega), List.drop_zero]
  by_cases hab : a = b <;> simp [hab]
 ·rw [if_pos h]
  have : a ≠ b := fun hh => h (by rw [hh])
  simp [this]
end Go.Proofs
end
section
namespace Go.Proofs
open Go.Tm
set_option linter.unusedSimpArgs false
theorem wr_i {n : Int} (h1 : -9223372036854775808 <= n) (h2 : n <= 9223372036854775807) : wr .i64 n = n := wr_eq _ _ (by show (-9223372036854775808 : Int) <= _; omega) (by show _ <= (9223372036854775807 : Int); omega)
theorem i64w {n : Int} (h1 : 0 <= n) (h2 : n <= 9223372036854775807) : IntKind.i64.wrap n = n := by
 simp [IntKind.wrap, IntKind.bits, IntKind.signed]; omega
theorem bv64 (a : Nat) (h : a < 18446744073709551616) : (BitVec.ofInt 64 (a : Int)).toNat = a := by
 rw [BitVec.ofInt_natCast, BitVec.toNat_ofNat]; exact Nat.mod_eq_of_lt (by omega)
theorem or64 (a b : Nat) (ha : a < 9223372036854775808) (hb : b < 9223372036854775808) : bitw .or .i64 (a : Int) (b : Int) = ((a ||| b : Nat) : Int) := by
 have hx : a ||| b < 2 ^ 63 := Nat.or_lt_two_pow (by omega) (by omega)
 unfold bitw
 show IntKind.i64.wrap ((BitVec.ofInt 64 (a : Int) ||| BitVec.ofInt 64 (b : Int)).toNat : Int) = _
 rw [BitVec.toNat_or, bv64 a (by omega), bv64 b (by omega)]
 exact i64w (by omega) (by omega)
theorem bv8 (a : Nat) (h : a < 256) : (BitVec.ofInt 8 (a : Int)).toNat = a := by
 rw [BitVec.ofInt_natCast, BitVec.toNat_ofNat]; exact Nat.mod_eq_of_lt (by omega)
theorem and8 (a : Nat) (ha : a < 256) : bitw .and .u8 (a : Int) 127 = ((a % 128 : Nat) : Int) := by
 have e := Nat.and_two_pow_sub_one_eq_mod a 7
 simp only [Nat.reducePow, Nat.reduceSub] at e
 unfold bitw
 show IntKind.u8.wrap ((BitVec.ofInt 8 (a : Int) &&& BitVec.ofInt 8 ((127 : Nat) : Int)).toNat : Int) = _
 rw [BitVec.toNat_and, bv8 a ha, bv8 127 (by decide), e]
 simp [IntKind.wrap, IntKind.bits, IntKind.signed]; omega
def Bytes (l : List Int) : Prop := ∀ x ∈ l, 0 <= x /\ x < 256
theorem numin_eq (n : Int) : zkm n = some (decide (0 <= n /\ n <= 1099511627776)) := by
 rw [zkm]
 congr 1
 rw [Bool.eq_iff_iff]
 simp
def pw : Nat -> Nat
 | 0 => 1
 | 1 => 128
 | 2 => 16384
 | 3 => 2097152
 | 4 => 268435456
 | 5 => 34359738368
 | _ => 4398046511104
theorem pw_eq {i : Nat} (hi : i <= 5) : 2 ^ (7 * i) = pw i := by
 rcases (by omega : i = 0 \/ i = 1 \/ i = 2 \/ i = 3 \/ i = 4 \/ i = 5) with rfl | rfl | rfl | rfl | rfl | rfl <;> rfl
theorem pw_le {i : Nat} (hi : i <= 5) : pw i <= 34359738368 := by
 rcases (by omega : i = 0 \/ i = 1 \/ i = 2 \/ i = 3 \/ i = 4 \/ i = 5) with rfl | rfl | rfl | rfl | rfl | rfl <;> decide
theorem shl (x i : Nat) (hx : x < 128) (hi : i <= 5) : shw true .i64 (x : Int) (wr .i64 (7 * (i : Int))) = ((x * pw i : Nat) : Int) := by
 rw [wr_i (by omega) (by omega)]
 have hm : min (7 * (i : Int)).toNat 64 = 7 * i := by omega
 have h1 : x * pw i <= 127 * 34359738368 := Nat.mul_le_mul (by omega) (pw_le hi)
 unfold shw
 show IntKind.i64.wrap ((x : Int) * ((2 : Nat) : Int) ^ (min (7 * (i : Int)).toNat 64)) = _
 rw [hm, <- Int.natCast_pow, pw_eq hi, <- Int.natCast_mul]
 exact i64w (by omega) (by omega)
theorem orp (a x i : Nat) (ha : a < pw i) (hx : x < 128) (hi : i <= 5) : bitw .or .i64 (a : Int) ((x * pw i : Nat) : Int) = ((a + x * pw i : Nat) : Int) := by
 have key : ∀ k : Nat, pw i = 2 ^ k -> a ||| (x * pw i) = a + x * pw i := by
  intro k hk
  rw [hk] at ha ⊢
  have e := Nat.two_pow_add_eq_or_of_lt (i := k) (b := a) ha x
  rw [Nat.or_comm, Nat.mul_comm x, <- e, Nat.add_comm]
 have hb := pw_le hi
 have hm : x * pw i <= 127 * 34359738368 := Nat.mul_le_mul (by omega) hb
 rw [or64 a _ (by omega) (by omega), key (7 * i) (pw_eq hi).symm]
theorem ofB_len (l : List UInt8) : (zft l).length = l.length := by simp [zft]
theorem ofB_bytes (l : List UInt8) : Bytes (zft l) := by
 intro x hx
 simp only [zft, List.mem_map] at hx
 obtain ⟨y, _, rfl⟩ := hx
 have := y.toNat_lt
 omega
theorem rin_eq (n : Int) : zej n = some (decide (0 <= n /\ n <= 1099511627776)) := by
 rw [zej]
 congr 1
 rw [Bool.eq_iff_iff]
 simp
theorem pw_succ {i : Nat} (hi : i <= 5) : pw (i + 1) = 128 * pw i := by
 rcases (by omega : i = 0 \/ i = 1 \/ i = 2 \/ i = 3 \/ i = 4 \/ i = 5) with rfl | rfl | rfl | rfl | rfl | rfl <;> rfl
theorem get2_loop : ∀ (l : List Int) (i acc : Nat), Bytes l -> i <= 6 -> acc < pw i ->
  (∃ t, zcb l i (acc : Int) = some (.inl t) /\ zaj l i (acc : Int) ((pw i : Nat) : Int) = some (.inl t)) \/
  (zcb l i (acc : Int) = some (.inr ()) /\ (zaj l i (acc : Int) ((pw i : Nat) : Int) = some (.inl (0, 0, 8)) \/ zaj l i (acc : Int) ((pw i : Nat) : Int) = some (.inr ())))
 | [], i, acc, _, _, _ => .inr ⟨by rw [zcb], .inr (by rw [zaj])⟩
 | y :: l, i, acc, hb, hi, ha => by
  obtain ⟨y1, y2⟩ := hb y (List.mem_cons_self ..)
  obtain ⟨m, rfl⟩ : ∃ m : Nat, y = (m : Int) := ⟨y.toNat, by omega⟩
  rw [zcb, zaj]
  by_cases h6 : i = 6
  ·rw [if_pos (by omega), if_neg (by omega)]
   exact .inr ⟨rfl, .inr rfl⟩
  ·have hi5 : i <= 5 := by omega
   have e7 : (0 : Int) <= wr .i64 (7 * (i : Int)) := by rw [wr_i (by omega) (by omega)]; omega
   have hm : m % 128 < 128 := Nat.mod_lt _ (by decide)
   have hp := pw_le hi5
   have hmul : m % 128 * pw i <= 127 * 34359738368 := Nat.mul_le_mul (by omega) hp
   have e1 : bitw .or .i64 (acc : Int) (shw true .i64 (wr .i64 (bitw .and .u8 (m : Int) 127)) (wr .i64 (7 * (i : Int)))) = ((acc + m % 128 * pw i : Nat) : Int) := by
    rw [and8 m (by omega), wr_i (n := ((m % 128 : Nat) : Int)) (by omega) (by omega), shl _ i hm hi5, orp acc _ i ha hm hi5]
   have e2 : wr .i64 ((acc : Int) + wr .i64 (wr .i64 ((m : Int).tmod 128) * ((pw i : Nat) : Int))) = ((acc + m % 128 * pw i : Nat) : Int) := by
    rw [Int.tmod_eq_emod_of_nonneg (by omega)]
    have : (m : Int) % 128 = ((m % 128 : Nat) : Int) := by omega
    rw [this, wr_i (n := ((m % 128 : Nat) : Int)) (by omega) (by omega), <- Int.natCast_mul, wr_i (n := ((m % 128 * pw i : Nat) : Int)) (by omega) (by omega), wr_i (by omega) (by omega)]
    omega
   have e3 : wr .i64 (((pw i : Nat) : Int) * 128) = ((pw (i + 1) : Nat) : Int) := by
    rw [pw_succ hi5, wr_i (by omega) (by omega)]
    omega
   rw [if_neg (show ¬ ((i : Int) > 5) by omega), if_pos e7, if_pos (show (i : Int) < 6 by omega), e1, e2, e3]
   by_cases h : m < 128
   ·rw [if_neg (show ¬ ((m : Int) > 127) by omega), if_pos (show (m : Int) < 128 by omega), numin_eq, rin_eq]
    by_cases hz : m = 0 /\ i > 0
    ·rw [if_neg (by omega), if_neg (by omega)]
     simp only [Option.bind_some]
     rw [if_pos (by omega), if_pos (by omega)]
     exact .inr ⟨rfl, .inl rfl⟩
    ·rw [if_pos (by omega), if_pos (by omega)]
     simp only [Option.bind_some]
     by_cases hN : acc + m % 128 * pw i <= 1099511627776
     ·rw [decide_eq_true (by omega), if_neg (by simp; omega), if_neg (by simp; omega)]
      exact .inl ⟨_, rfl, rfl⟩
     ·rw [decide_eq_false (by omega), if_pos (.inr (by simp)), if_pos (.inr (by simp))]
      exact .inr ⟨rfl, .inl rfl⟩
   ·rw [if_pos (show (m : Int) > 127 by omega), if_neg (show ¬ ((m : Int) < 128) by omega)]
    have hacc : acc + m % 128 * pw i < pw (i + 1) := by
     rw [pw_succ hi5]
     have : m % 128 * pw i <= 127 * pw i := Nat.mul_le_mul (by omega) (Nat.le_refl _)
     omega
    exact get2_loop l (i + 1) _ (fun x hx => hb x (List.mem_cons_of_mem _ hx)) (by omega) hacc
theorem get2 (l : List Int) (hb : Bytes l) : zce l = zes l := by
 rw [zce, zes]
 have z : ((0 : Nat) : Int) = 0 := rfl
 have o : ((pw 0 : Nat) : Int) = 1 := rfl
 rcases get2_loop l 0 0 hb (by omega) (by decide) with ⟨t, h1, h2⟩ | ⟨h1, h2 | h2⟩ <;> rw [z] at h1 h2 <;> rw [o] at h2 <;> rw [h1, h2] <;> rfl
theorem getText2 (l : List Int) (hb : Bytes l) : zcm l = zed l := by
 rw [zcm, zed, get2 l hb]
def gt (l : List Int) : Int × Int × Int := (zes l).getD (0, 0, 8)
theorem gt_ok (l : List Int) : zes l = some (gt l) /\ GetOk l (gt l) := by
 obtain ⟨r, hr, ho⟩ := get_tot l
 have : gt l = r := by rw [gt, hr]; rfl
 rw [this]
 exact ⟨hr, ho⟩
end Go.Proofs
end
section
namespace Go.Proofs
open Go.Tm
set_option linter.unusedSimpArgs false
set_option linter.unusedVariables false
theorem bind_ite {α β : Type} (c : Prop) [Decidable c] (x d : α) (f : α -> Option β) : Option.bind (if c then some x else some d) f = f (if c then x else d) := by
 split <;> rfl
def risG : Int -> List Int -> Bool
 | _, [] => true
 | k, y :: l => decide (k < y /\ y < 4) && risG y l
theorem risG_len : ∀ (l : List Int) (k : Int), -1 <= k -> risG k l = true -> (l.length : Int) <= 3 - k \/ l = []
 | [], _, _, _ => .inr rfl
 | y :: l, k, hk, h => by
  simp only [risG, Bool.and_eq_true, decide_eq_true_eq] at h
  left
  rcases risG_len l y (by omega) h.2 with h1 | h1
  ·simp only [List.length_cons]; omega
  ·subst h1; simp; omega
theorem in12_eq (a b c : Int) : zbr a b c = some (decide (b <= a /\ a < c)) := by
 rw [zbr]
 congr 1
 rw [Bool.eq_iff_iff]; simp
theorem id12_eq (a : Int) : zd7 a = some (decide (IdOk a)) := by
 rw [zd7, in12_eq]
 simp only [Option.bind_some]
 congr 1
 rw [Bool.eq_iff_iff]
 simp only [decide_eq_true_eq]
 unfold IdOk
 omega
theorem pre_getD {L pre l : List Int} {y : Int} (hL : L = pre ++ y :: l) {k : Int} (h0 : pre.getLast? = some k) : L.getD (pre.length - 1) default = k := by
 have hne : pre ≠ [] := by rintro rfl; simp at h0
 have hp : 0 < pre.length := List.length_pos_iff.2 hne
 rw [hL, List.getD_eq_getElem?_getD, List.getElem?_append_left (by omega), <- List.getLast?_eq_getElem?, h0]; rfl
theorem mm_loop (m : TMessage) : ∀ (l pre : List Int) (k : Int), m.Groups = pre ++ l -> (pre = [] /\ k = -1 \/ 0 <= k /\ pre.getLast? = some k) -> zan m l pre.length = some (if risG k l = true then .inr () else .inl false) := by
 intro l
 induction l with
 | nil => intro pre k _ _; simp [zan, risG]
 | cons y l ih =>
  intro pre k hm hk
  rw [zan, in12_eq]
  simp only [Option.bind_some]
  have hc : ((¬ (decide (0 <= y /\ y < 4) = true)) \/ (((pre.length : Int) > 0) /\ (y <= (m.Groups.getD (pre.length - 1) default)))) ↔ ¬ (k < y /\ y < 4) := by
   rcases hk with ⟨rfl, rfl⟩ | ⟨h0, hl⟩
   ·simp; omega
   ·have hne : pre ≠ [] := by rintro rfl; simp at hl
    have hp : 0 < pre.length := List.length_pos_iff.2 hne
    rw [pre_getD hm hl, decide_eq_true_eq]; omega
  by_cases h : k < y /\ y < 4
  ·rw [if_neg (fun hh => hc.1 hh h)]
   have e : risG k (y :: l) = risG y l := by simp [risG, h.1, h.2]
   have := ih (pre ++ [y]) y (by rw [hm]; simp) (.inr ⟨by rcases hk with ⟨_, rfl⟩ | ⟨h0, _⟩ <;> omega, by simp⟩)
   rw [List.length_append, List.length_singleton] at this
   rw [e]; exact this
  ·rw [if_pos (hc.2 h), if_neg]
   simp only [risG, Bool.and_eq_true, decide_eq_true_eq]
   exact fun hh => h hh.1
theorem cm_loop (m : TMessage) : ∀ (l pre : List Int) (k : Int) (b : Bool), m.Groups = pre ++ l -> (pre = [] /\ k = -1 \/ 0 <= k /\ pre.getLast? = some k) -> za9 m l pre.length b = some (b && risG k l) := by
 intro l
 induction l with
 | nil => intro pre k b _ _; simp [za9, risG]
 | cons y l ih =>
  intro pre k b hm hk
  cases b with
  | false => rw [msg_false]; rfl
  | true =>
   rw [za9, if_pos rfl, in_eq]
   simp only [Option.bind_some, Bool.true_and]
   have hc : (decide (0 <= y /\ y <= 3) && (((pre.length : Int) == 0) || decide (y > m.Groups.getD (pre.length - 1) default))) = decide (k < y /\ y < 4) := by
    rw [Bool.eq_iff_iff]
    simp only [Bool.and_eq_true, Bool.or_eq_true, decide_eq_true_eq, beq_iff_eq]
    rcases hk with ⟨rfl, rfl⟩ | ⟨h0, hl⟩
    ·simp; omega
    ·have hne : pre ≠ [] := by rintro rfl; simp at hl
     have hp : 0 < pre.length := List.length_pos_iff.2 hne
     rw [pre_getD hm hl]; omega
   rw [hc]
   by_cases h : k < y /\ y < 4
   ·rw [decide_eq_true h]
    have := ih (pre ++ [y]) y true (by rw [hm]; simp) (.inr ⟨by rcases hk with ⟨_, rfl⟩ | ⟨h0, _⟩ <;> omega, by simp⟩)
    rw [List.length_append, List.length_singleton] at this
    rw [this]
    simp [risG, h]
   ·rw [decide_eq_false h, msg_false]
    simp [risG, h]
def MOk (m : TMessage) : Prop := m.Groups ≠ [] /\ risG (-1) m.Groups = true /\ IdOk m.Id /\ (0 <= m.Topic /\ m.Topic <= 3) /\ m.Key.length <= 16 /\ m.Body.length <= 64
instance (m : TMessage) : Decidable (MOk m) := by unfold MOk IdOk; infer_instance
theorem checkm_eq (m : TMessage) : zar m = some (if MOk m then 0 else 120) := by
 have h := cm_loop m m.Groups [] (-1) ((decide ((m.Groups.length : Int) >= 1)) && (decide ((m.Groups.length : Int) <= 4))) rfl (.inl ⟨rfl, rfl⟩)
 rw [List.length_nil] at h
 rw [zar, h]
 simp only [Option.bind_some, cid_eq, in_eq, bind_ite]
 by_cases hr : risG (-1) m.Groups = true
 ·have hl := risG_len _ _ (by omega) hr
  by_cases hg : m.Groups = []
  ·have : ¬ MOk m := fun h => h.1 hg
   simp [hg, this]
  ·have h1 : 0 < m.Groups.length := List.length_pos_iff.2 hg
   have h4 : (m.Groups.length : Int) <= 4 := by rcases hl with h | h; omega; exact absurd h hg
   have e1 : decide ((m.Groups.length : Int) >= 1) = true := by simp; omega
   have e2 : decide ((m.Groups.length : Int) <= 4) = true := by simpa using h4
   by_cases hi : IdOk m.Id
   ·by_cases ht : 0 <= m.Topic /\ m.Topic <= 3
    ·by_cases hk : m.Key.length <= 16
     ·by_cases hb : m.Body.length <= 64
      ·have : MOk m := ⟨hg, hr, hi, ht, hk, hb⟩
       simp [e1, e2, hr, hi, ht, this]; omega
      ·have : ¬ MOk m := fun h => hb h.2.2.2.2.2
       simp [e1, e2, hr, hi, ht, this]; omega
     ·have : ¬ MOk m := fun h => hk h.2.2.2.2.1
      simp [e1, e2, hr, hi, ht, this]; omega
    ·have : ¬ MOk m := fun h => ht h.2.2.2.1
     simp [e1, e2, hr, hi, ht, this]
   ·have : ¬ MOk m := fun h => hi h.2.2.1
    simp [e1, e2, hr, hi, this]
 ·have : ¬ MOk m := fun h => hr h.2.1
  simp [hr, this]
theorem maym_eq (m : TMessage) : zcp m = some (decide (MOk m)) := by
 have h := mm_loop m m.Groups [] (-1) rfl (.inl ⟨rfl, rfl⟩)
 rw [List.length_nil] at h
 rw [zcp, h]
 by_cases hr : risG (-1) m.Groups = true
 ·rw [if_pos hr]
  simp only [Option.bind_some, id12_eq, in12_eq, bind_ite]
  congr 1
  rw [Bool.eq_iff_iff]
  simp only [Bool.and_eq_true, decide_eq_true_eq, MOk, hr, true_and, List.length_pos_iff]
  by_cases hg : m.Groups = []
  ·simp [hg]
  ·have h1 : 0 < m.Groups.length := List.length_pos_iff.2 hg
   have h1' : (m.Groups.length : Int) > 0 := by omega
   simp only [h1', hg, ne_eq, not_false_eq_true, true_and, if_true]
   by_cases hi : IdOk m.Id
   ·simp only [hi, decide_true, if_true, decide_eq_true_eq, true_and]
    omega
   ·simp [hi]
 ·have : ¬ MOk m := fun h => hr h.2.1
  rw [if_neg hr]
  simp [this]
end Go.Proofs
end
section
namespace Go.Proofs
open Go.Tm
set_option linter.unusedSimpArgs false
set_option linter.unusedVariables false
def zM : TMessage := ⟨0, [], 0, [], []⟩
theorem same12_eq (a b : TCommand) : ze0 a b = some (decide (a = b)) := by
 rw [ze0, sm12_eq, sameInts_eq]
 obtain ⟨a1, a2, a3, a4, a5, a6, a7, a8⟩ := a
 obtain ⟨b1, b2, b3, b4, b5, b6, b7, b8⟩ := b
 by_cases h : a1 = b1
 ·by_cases h2 : a2 = b2
  ·by_cases h3 : a3 = b3
   ·by_cases h4 : a4 = b4
    ·by_cases h5 : a5 = b5 <;> by_cases h6 : a6 = b6 <;> by_cases h7 : a7 = b7 <;> by_cases h8 : a8 = b8 <;> simp [h, h2, h3, h4, h5, h6, h7, h8]
    ·simp [h, h2, h3, h4]
   ·simp [h, h2, h3]
  ·simp [h, h2]
 ·simp [h]
def TopOk (t n : Int) : Prop := (0 <= t /\ t <= 3) /\ 0 <= n /\ n <= 1073741824
def COk (c : TCommand) : Prop :=
 (c.Kind = 0 /\ c.Message = zM /\ c.Id = 0 /\ c.Time = 0 /\ c.Members = [] /\ c.Topic = 0 /\ c.Who = 0 /\ c.N = 0) \/
 (c.Kind = 1 /\ MOk c.Message /\ c.Id = 0 /\ c.Time = 0 /\ c.Members = [] /\ c.Topic = 0 /\ c.Who = 0 /\ c.N = 0) \/
 (c.Kind = 2 /\ c.Message = zM /\ IdOk c.Id /\ (1 <= c.Time /\ c.Time <= 1073741824) /\ c.Members = [] /\ c.Topic = 0 /\ c.Who = 0 /\ c.N = 0) \/
 (c.Kind = 3 /\ c.Message = zM /\ c.Id = 0 /\ c.Time = 0 /\ qerr c.Members = 0 /\ c.Topic = 0 /\ c.Who = 0 /\ c.N = 0) \/
 (c.Kind = 4 /\ c.Message = zM /\ IdOk c.Id /\ c.Time = 0 /\ c.Members = [] /\ TopOk c.Topic c.N /\ 0 <= c.Who /\ c.Who <= 7) \/
 ((c.Kind = 5 \/ c.Kind = 6) /\ c.Message = zM /\ IdOk c.Id /\ c.Time = 0 /\ c.Members = [] /\ TopOk c.Topic c.N /\ c.Who = 0)
theorem COk.kind {c : TCommand} (h : COk c) : 0 <= c.Kind /\ c.Kind <= 6 := by
 unfold COk at h
 omega
theorem len0 (l : List Int) : (((l.length : Int) == 0) = true) ↔ l = [] := by simp
theorem may12_iff (c : TCommand) : ∃ b, ze9 c = some b /\ (b = true ↔ COk c) := by
 obtain ⟨K, m, id, t, ms, tp, who, n⟩ := c
 rw [ze9, sm12_eq]
 simp only [Option.bind_some, id12_eq, in12_eq, bind_ite, same12_eq, maym_eq, qcheckR_eq]
 by_cases k0 : K = 0
 ·subst k0
  refine ⟨_, by rw [if_pos rfl], ?_⟩
  simp [COk, TCommand.mk.injEq, zM]
 rw [if_neg k0]
 by_cases k1 : K = 1
 ·subst k1
  refine ⟨_, by rw [if_pos rfl], ?_⟩
  simp only [COk, Bool.and_eq_true, decide_eq_true_eq, beq_iff_eq, len0]
  simp
  simp only [and_assoc]
 rw [if_neg k1]
 by_cases hm : m = zM
 ·have hd : decide (m = (⟨0, [], 0, [], []⟩ : TMessage)) = true := decide_eq_true hm
  rw [hd]
  simp only [not_true_eq_false, not_false_eq_true, true_and, if_true, Bool.not_true, Bool.not_false, Bool.true_and]
  by_cases k2 : K = 2
  ·subst k2
   refine ⟨_, by rw [if_pos rfl], ?_⟩
   by_cases hi : IdOk id
   ·simp only [COk, hm, hi, decide_true, if_true, Bool.and_eq_true, decide_eq_true_eq, beq_iff_eq, len0]
    by_cases hms : ms = []
    ·subst hms
     simp
     omega
    ·simp [hms]
   ·simp [COk, hi]
  rw [if_neg k2]
  by_cases k3 : K = 3
  ·subst k3
   refine ⟨_, by rw [if_pos rfl], ?_⟩
   by_cases hq : id = 0 /\ t = 0
   ·simp [COk, hm, hq.1, hq.2, and_assoc]
   ·rw [if_neg hq]
    simp [COk, hm]
    omega
  rw [if_neg k3]
  by_cases k4 : K = 4
  ·subst k4
   refine ⟨_, by simp; rfl, ?_⟩
   by_cases hi : IdOk id
   ·by_cases ht : t = 0
    ·by_cases hms : ms = []
     ·subst hms
      simp [COk, hm, hi, ht, TopOk]
      omega
     ·simp [COk, hms, hi, ht]
    ·simp [COk, hi, ht]
   ·simp [COk, hi]
  rw [if_neg k4]
  by_cases k56 : K = 5 \/ K = 6
  ·refine ⟨_, by rcases k56 with rfl | rfl <;> simp <;> rfl, ?_⟩
   by_cases hi : IdOk id
   ·by_cases ht : t = 0
    ·by_cases hms : ms = []
     ·subst hms
      rcases k56 with rfl | rfl <;> simp [COk, hm, hi, ht, TopOk] <;> omega
     ·rcases k56 with rfl | rfl <;> simp [COk, hms, hi, ht]
    ·rcases k56 with rfl | rfl <;> simp [COk, hi, ht]
   ·rcases k56 with rfl | rfl <;> simp [COk, hi]
  ·have h5 : ¬ K = 5 := fun h => k56 (.inl h)
   have h6 : ¬ K = 6 := fun h => k56 (.inr h)
   refine ⟨false, by simp [h5, h6], ?_⟩
   simp [COk, k0, k1, k2, k3, k4]
   omega
 ·have hd : decide (m = (⟨0, [], 0, [], []⟩ : TMessage)) = false := decide_eq_false hm
  rw [hd]
  simp only [Bool.false_eq_true, not_false_eq_true, not_true_eq_false, false_and, if_false, Bool.not_false, Bool.not_true, Bool.false_and]
  have hno : ¬ COk ⟨K, m, id, t, ms, tp, who, n⟩ := by
   simp only [COk]
   simp [hm, k0, k1]
  simp only [hno, iff_false]
  split
  ·exact ⟨_, rfl, by simp⟩
  split
  ·exact ⟨_, rfl, by simp⟩
  ·split
   ·simp
   ·split <;> simp
end Go.Proofs
end
section
namespace Go.Proofs
open Go.Tm
set_option linter.unusedSimpArgs false
set_option linter.unusedVariables false
theorem check_of {c p : TCommand} {ok : Bool} (h : ze1 c = some (p, ok)) : zbg c = some (if ok = true /\ p = c then 0 else 120) := by
 rw [zbg, h]
 simp only [Option.bind_some, cs_eq]
 cases ok with
 | false => simp
 | true =>
  by_cases hp : p = c <;> simp [hp]
theorem cmd_iff (c : TCommand) : ∃ e, zbg c = some e /\ (e = 0 ↔ COk c) := by
 obtain ⟨p, ok, hp, hiff⟩ : ∃ p ok, ze1 c = some (p, ok) /\ ((ok = true /\ p = c) ↔ COk c) := by
  obtain ⟨K, m, id, t, ms, tp, who, n⟩ := c
  rw [ze1]
  simp only [cid_eq, in_eq, Option.bind_some, bind_ite, checkm_eq, qcheck_eq]
  by_cases k0 : K = 0
  ·subst k0
   refine ⟨_, _, by rw [if_pos rfl]; rfl, ?_⟩
   simp [COk, TCommand.mk.injEq, zM]
   constructor <;> (rintro ⟨h1, h2, h3, h4, h5, h6, h7⟩; refine ⟨h1.symm, h2.symm, h3.symm, ?_, h5.symm, h6.symm, h7.symm⟩; first | exact h4.symm | exact h4)
  rw [if_neg k0]
  by_cases k1 : K = 1
  ·subst k1
   refine ⟨_, _, by rw [if_pos rfl]; rfl, ?_⟩
   by_cases hm : MOk m
   ·simp [COk, hm, TCommand.mk.injEq]
    constructor <;> (rintro ⟨h2, h3, h4, h5, h6, h7⟩; refine ⟨h2.symm, h3.symm, ?_, h5.symm, h6.symm, h7.symm⟩; first | exact h4.symm | exact h4)
   ·simp [COk, hm]
  rw [if_neg k1]
  by_cases k2 : K = 2
  ·subst k2
   refine ⟨_, _, by rw [if_pos rfl]; rfl, ?_⟩
   by_cases hi : IdOk id
   ·by_cases ht : 1 <= t /\ t <= 1073741824
    ·simp [COk, hi, ht, TCommand.mk.injEq, zM]
     constructor <;> (rintro ⟨h1, h4, h5, h6, h7⟩; refine ⟨h1.symm, ?_, h5.symm, h6.symm, h7.symm⟩; first | exact h4.symm | exact h4)
    ·simp [COk, hi, ht]
   ·simp [COk, hi]
  rw [if_neg k2]
  by_cases k3 : K = 3
  ·subst k3
   refine ⟨_, _, by rw [if_pos rfl]; rfl, ?_⟩
   by_cases hq : qerr ms = 0
   ·simp [COk, hq, TCommand.mk.injEq, zM]
    constructor <;> (rintro ⟨h1, h2, h3, h5, h6, h7⟩; exact ⟨h1.symm, h2.symm, h3.symm, h5.symm, h6.symm, h7.symm⟩)
   ·simp [COk, hq]
  rw [if_neg k3]
  by_cases k4 : K = 4
  ·subst k4
   refine ⟨_, _, by rw [if_pos rfl]; rfl, ?_⟩
   by_cases hi : IdOk id
   ·by_cases ht : 0 <= tp /\ tp <= 3
    ·by_cases hn : 0 <= n /\ n <= 1073741824
     ·by_cases hw : 0 <= who /\ who <= 7
      ·simp [COk, hi, ht, hn, hw, TopOk, TCommand.mk.injEq, zM]
       constructor <;> (rintro ⟨h1, h2, h4⟩; refine ⟨h1.symm, h2.symm, ?_⟩; first | exact h4.symm | exact h4)
      ·simp [COk, hi, ht, hn, hw]
     ·simp [COk, hi, ht, hn, TopOk]
    ·simp [COk, hi, ht, TopOk]
   ·simp [COk, hi]
  rw [if_neg k4]
  by_cases k56 : K = 5 \/ K = 6
  ·refine ⟨⟨K, ⟨0, [], 0, [], []⟩, id, 0, [], tp, 0, n⟩, _, by rcases k56 with rfl | rfl <;> simp <;> rfl, ?_⟩
   by_cases hi : IdOk id
   ·by_cases ht : 0 <= tp /\ tp <= 3
    ·by_cases hn : 0 <= n /\ n <= 1073741824
     ·rcases k56 with rfl | rfl <;> simp [COk, hi, ht, hn, TopOk, TCommand.mk.injEq, zM] <;>
       (constructor <;> (rintro ⟨h1, h2, h4, h5⟩; refine ⟨h1.symm, h2.symm, ?_, h5.symm⟩; first | exact h4.symm | exact h4))
     ·rcases k56 with rfl | rfl <;> simp [COk, hi, ht, hn, TopOk]
    ·rcases k56 with rfl | rfl <;> simp [COk, hi, ht, TopOk]
   ·rcases k56 with rfl | rfl <;> simp [COk, hi]
  ·have h5 : ¬ K = 5 := fun h => k56 (.inl h)
   have h6 : ¬ K = 6 := fun h => k56 (.inr h)
   refine ⟨_, false, by simp [h5, h6]; rfl, ?_⟩
   simp [COk, k0, k1, k2, k3, k4, h5, h6]
 refine ⟨_, check_of hp, ?_⟩
 by_cases h : ok = true /\ p = c
 ·simp [h, hiff.1 h]
 ·rw [if_neg h]
  simp only [show ¬ ((120 : Int) = 0) by omega, false_iff]
  exact fun hc => h (hiff.2 hc)
end Go.Proofs
end

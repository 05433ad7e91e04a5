/- Texts of the proof. -/
import Derived.WideKeyArgs
import Derived.ChangeSame
import Derived.ChangeArms
import Derived.OpenShut
import Derived.Carry
import Derived.Test.YtnhnalcgbpebiaaRows
import Derived.WalkKit
import Derived.ProofKit
import Derived.Test.YtnhnalcgbpebiaaOrderBeginsPm
import Derived.Test.YtnhnalcgbpebiaaOrderBeginsPj
import Derived.Test.YtnhnalcgbpebiaaOrderBeginsPl
import Derived.Test.YtnhnalcgbpebiaaOrderBeginsPf
section
namespace Go.Proofs
open Go.Tm
set_option linter.unusedSimpArgs false
def stW (w : TWait) : TStamp := ⟨w.Time, w.Message.Id⟩
def ltS (a b : TStamp) : Prop := a.Time < b.Time ∨ (a.Time = b.Time ∧ a.Id < b.Id)
instance (a b : TStamp) : Decidable (ltS a b) := by unfold ltS; infer_instance
theorem ltS_trans {a b c : TStamp} (h : ltS a b) (k : ltS b c) : ltS a c := by unfold ltS at *; omega
theorem ltS_irrefl (a : TStamp) : ¬ ltS a a := by unfold ltS; omega
theorem ltS_total {a b : TStamp} (h : a.Id ≠ b.Id) (k : ¬ ltS b a) : ltS a b := by unfold ltS at *; omega
theorem or2 (x y : Int) : m_cmp_Or_int [x, y] = some (if x = 0 then y else x) := by
  rw [m_cmp_Or_int, m_cmp_Or_int_loop1]
  by_cases hx : x = 0
  · rw [if_neg (by simpa using hx), m_cmp_Or_int_loop1, if_pos hx]
    by_cases hy : y = 0
    · rw [if_neg (by simpa using hy), m_cmp_Or_int_loop1]; simp [hy]
    · rw [if_pos hy]; rfl
  · rw [if_pos hx, if_neg hx]; rfl
theorem cmp_eq (x y : Int) : m_cmp_Compare_int x y = some (if x < y then -1 else if x > y then 1 else 0) := by
  have e : ∀ z : Int, m_cmp_isNaN_int z = some false := fun z => by rw [m_cmp_isNaN_int]; simp
  rw [m_cmp_Compare_int, e, e]
  simp only [Option.bind_some, Bool.false_eq_true, if_false]
  split
  · rfl
  · split <;> rfl
theorem less_eq (a b : TStamp) : m_stamp_Less a b = some (decide (ltS a b)) := by
  rw [m_stamp_Less, cmp_eq, cmp_eq]
  simp only [Option.bind_some, or2, Option.some.injEq, decide_eq_decide, ltS]
  by_cases h1 : a.Time < b.Time
  · simp [h1]
  · by_cases h2 : a.Time > b.Time
    · simp [h1, h2]; omega
    · have : a.Time = b.Time := by omega
      by_cases h3 : a.Id < b.Id
      · simp [this, h3]
      · by_cases h4 : a.Id > b.Id <;> simp [this, h3, h4]
theorem order_eq (a b : TWait) : m_skeen_order a b = some (if ltS (stW a) (stW b) then -1 else if ltS (stW b) (stW a) then 1 else 0) := by
  simp only [m_skeen_order, m_skeen_of, Option.bind_some, less_eq, decide_eq_true_eq]
  show (if ltS (stW a) (stW b) then _ else if ltS (stW b) (stW a) then _ else _) = _
  split
  · rfl
  · split <;> rfl
def minW : TWait → List TWait → TWait
  | m, [] => m
  | m, x :: l => minW (if ltS (stW x) (stW m) then x else m) l
theorem minW_mem : ∀ (l : List TWait) (m : TWait), minW m l = m ∨ minW m l ∈ l := by
  intro l
  induction l with
  | nil => intro m; exact .inl rfl
  | cons x l ih =>
    intro m
    rw [minW]
    rcases ih (if ltS (stW x) (stW m) then x else m) with h | h
    · rw [h]; split
      · exact .inr (by simp)
      · exact .inl rfl
    · exact .inr (List.mem_cons_of_mem _ h)
theorem minW_le : ∀ (l : List TWait) (m : TWait), ¬ ltS (stW m) (stW (minW m l)) ∧ ∀ x ∈ l, ¬ ltS (stW x) (stW (minW m l)) := by
  intro l
  induction l with
  | nil => intro m; exact ⟨ltS_irrefl _, by simp⟩
  | cons x l ih =>
    intro m
    rw [minW]
    obtain ⟨h1, h2⟩ := ih (if ltS (stW x) (stW m) then x else m)
    have key : ¬ ltS (stW m) (stW (minW (if ltS (stW x) (stW m) then x else m) l)) ∧ ¬ ltS (stW x) (stW (minW (if ltS (stW x) (stW m) then x else m) l)) := by
      by_cases h : ltS (stW x) (stW m)
      · rw [if_pos h] at h1 ⊢
        exact ⟨fun k => h1 (ltS_trans h k), h1⟩
      · rw [if_neg h] at h1 ⊢
        refine ⟨h1, fun k => ?_⟩
        have := @ltS_trans
        unfold ltS at *; omega
    refine ⟨key.1, fun y hy => ?_⟩
    rcases List.mem_cons.1 hy with rfl | hy
    · exact key.2
    · exact h2 y hy
theorem min_loop (l : List TWait) (hl : l.length < 1000000) : ∀ (fu k : Nat) (m : TWait), l.length - k < fu → k ≤ l.length →
    m_slices_MinFunc_Wait_Wait_loop1 l m_skeen_order fu m.Message.Id m.Message.Groups m.Message.Topic m.Message.Key m.Message.Body m.Time m.Final (k : Int)
      = some (let r := minW m (l.drop k); (r.Message.Id, r.Message.Groups, r.Message.Topic, r.Message.Key, r.Message.Body, r.Time, r.Final)) := by
  intro fu
  induction fu with
  | zero => intro k m h; omega
  | succ fu ih =>
    intro k m h hk
    rw [m_slices_MinFunc_Wait_Wait_loop1]
    by_cases hlt : k < l.length
    · have hd := List.drop_eq_getElem_cons hlt
      have hg : l.getD (k : Int).toNat default = l[k] := by simp [List.getD, List.getElem?_eq_getElem hlt]
      have hw : wr .i64 ((k : Int) + 1) = ((k + 1 : Nat) : Int) := wr_eq _ _ (by show (-9223372036854775808 : Int) ≤ _; omega) (by show _ ≤ (9223372036854775807 : Int); omega)
      rw [if_pos (by omega), if_pos (by omega), hg, order_eq, hd, minW]
      show Option.bind (Option.bind (some (if ltS (stW l[k]) (stW m) then (-1 : Int) else if ltS (stW m) (stW l[k]) then 1 else 0)) _) _ = _
      simp only [Option.bind_some]
      by_cases hc : ltS (stW l[k]) (stW m)
      · simp only [hc, if_true]
        rw [if_pos (by decide), if_pos (by omega)]
        simp only [Option.bind_some]
        rw [hw, ih (k + 1) l[k] (by omega) (by omega)]
      · simp only [hc, if_false]
        rw [if_neg (by split <;> decide)]
        simp only [Option.bind_some]
        rw [hw, ih (k + 1) m (by omega) (by omega)]
    · rw [if_neg (by omega), List.drop_of_length_le (by omega), minW]
theorem min_eq (y : TWait) (l : List TWait) (hl : l.length < 900000) : m_slices_MinFunc_Wait_Wait (y :: l) m_skeen_order = some (minW y l) := by
  rw [m_slices_MinFunc_Wait_Wait, if_neg (by simp; omega), if_pos (by simp)]
  have := min_loop (y :: l) (by simp; omega) ((y :: l).length + 1) 1 y (by simp; omega) (by simp)
  rw [show ((1 : Nat) : Int) = 1 from rfl] at this
  have e : (y :: l).getD 0 default = y := rfl
  rw [e, this]
  rfl
theorem minw_loop (l : List TWait) (f : TWait → TWait → Option Int) : ∀ (fu : Nat) (a : Int) (b : List Int) (c : Int) (d e : List UInt8) (g : Int) (h : Bool) (i : Int), m_slices_MinFunc_Wait_Wait_w_loop1 l f fu a b c d e g h i = m_slices_MinFunc_Wait_Wait_loop1 l f fu a b c d e g h i := by
  intro fu
  induction fu with
  | zero => intros; rfl
  | succ fu ih =>
    intros
    rw [m_slices_MinFunc_Wait_Wait_w_loop1, m_slices_MinFunc_Wait_Wait_loop1]
    simp only [ih]
theorem minw_eq (y : TWait) (l : List TWait) (hl : l.length < 900000) : m_slices_MinFunc_Wait_Wait_w (y :: l) m_skeen_order = some (minW y l) := by
  rw [← min_eq y l hl, m_slices_MinFunc_Wait_Wait_w, m_slices_MinFunc_Wait_Wait]
  simp only [minw_loop]
def IdOk (n : Int) : Prop := 0 ≤ n ∧ n ≤ 6291455
def IdsUp (l : List TWait) : Prop := l.Pairwise fun a b => a.Message.Id < b.Message.Id
theorem find1 (w : TWait) (id : Int) (h1 : IdOk w.Message.Id) (h2 : IdOk id) : m_skeen_clock_find_1 w id = some (w.Message.Id - id) := by
  rw [m_skeen_clock_find_1]
  unfold IdOk at *
  rw [wr_eq _ _ (by show (-9223372036854775808 : Int) ≤ _; omega) (by show _ ≤ (9223372036854775807 : Int); omega)]
def plc (id : Int) : List TWait → Nat
  | [] => 0
  | w :: l => if w.Message.Id < id then plc id l + 1 else 0
theorem plc_le (id : Int) : ∀ l, plc id l ≤ l.length := by
  intro l
  induction l with
  | nil => simp [plc]
  | cons w l ih => rw [plc]; split <;> simp <;> omega
theorem plc_lt (id : Int) : ∀ (l : List TWait), IdsUp l → ∀ (x : Nat) (h : x < l.length), (l[x].Message.Id < id ↔ x < plc id l) := by
  intro l
  induction l with
  | nil => intro _ x h; simp at h
  | cons w l ih =>
    intro hu x h
    have hu' := List.pairwise_cons.1 hu
    rw [plc]
    cases x with
    | zero => simp only [List.getElem_cons_zero]; split <;> simp [*]
    | succ x =>
      simp only [List.getElem_cons_succ]
      have hx : x < l.length := by simpa using h
      have := ih hu'.2 x hx
      split
      · rw [this]; omega
      · rename_i hw
        have := hu'.1 l[x] (List.getElem_mem hx)
        constructor
        · intro _; omega
        · intro h; omega
theorem bs_loop (l : List TWait) (id : Int) (hl : l.length < 1000000) (hu : IdsUp l) (hi : ∀ w ∈ l, IdOk w.Message.Id) (h2 : IdOk id) : ∀ (fu i j : Nat), j - i < fu → i ≤ plc id l → plc id l ≤ j → j ≤ l.length →
    m_slices_BinarySearchFunc_Wait_Wait_int_loop1 l id m_skeen_clock_find_1 fu (i : Int) (j : Int) = some ((plc id l : Nat) : Int) := by
  intro fu
  induction fu with
  | zero => intro i j h; omega
  | succ fu ih =>
    intro i j h h1 h3 h4
    rw [m_slices_BinarySearchFunc_Wait_Wait_int_loop1]
    by_cases hij : i < j
    · have hm : (i + j) / 2 < l.length := by omega
      have hg : l.getD (((i + j) / 2 : Nat) : Int).toNat default = l[(i + j) / 2] := by rw [Int.toNat_natCast]; simp [List.getD, List.getElem?_eq_getElem hm]
      have e : wr .i64 ((((i + j) / 2 : Nat) : Int) + 1) = (((i + j) / 2 + 1 : Nat) : Int) := wr_eq _ _ (by show (-9223372036854775808 : Int) ≤ _; omega) (by show _ ≤ (9223372036854775807 : Int); omega)
      rw [if_pos (by omega), half_eq i j (by omega), if_pos ⟨by omega, by omega⟩, hg, find1 _ _ (hi _ (List.getElem_mem hm)) h2, e]
      simp only [Option.bind_some]
      have hp := plc_lt id l hu _ hm
      by_cases hc : l[(i + j) / 2].Message.Id < id
      · rw [if_pos (by omega)]
        exact ih _ _ (by omega) (by have := hp.1 hc; omega) h3 h4
      · rw [if_neg (by omega)]
        exact ih _ _ (by omega) h1 (by have : ¬ _ := fun k => hc (hp.2 k); omega) (by omega)
    · rw [if_neg (by omega)]
      have : i = plc id l := by omega
      rw [this]
theorem plc_at (id : Int) (l : List TWait) (hu : IdsUp l) : (∃ w ∈ l, w.Message.Id = id) ↔ ∃ h : plc id l < l.length, l[plc id l].Message.Id = id := by
  constructor
  · rintro ⟨w, hw, rfl⟩
    obtain ⟨x, hx, rfl⟩ := List.getElem_of_mem hw
    have h1 : ¬ x < plc l[x].Message.Id l := fun k => by have := (plc_lt _ l hu x hx).2 k; omega
    have h2 : plc l[x].Message.Id l ≤ x := by omega
    have h3 : plc l[x].Message.Id l < l.length := by omega
    refine ⟨h3, ?_⟩
    have h4 : ¬ l[plc l[x].Message.Id l].Message.Id < l[x].Message.Id := fun k => by have := (plc_lt _ l hu _ h3).1 k; omega
    rcases Nat.lt_or_eq_of_le h2 with h5 | h5
    · have := List.pairwise_iff_getElem.1 hu _ _ h3 hx h5
      omega
    · simp only [h5]
  · rintro ⟨h, e⟩
    exact ⟨_, List.getElem_mem h, e⟩
theorem find_eq (c : Tskeen_clock) (id : Int) (hl : c.Skeen.Waits.length < 1000000) (hu : IdsUp c.Skeen.Waits) (hi : ∀ w ∈ c.Skeen.Waits, IdOk w.Message.Id) (h2 : IdOk id) :
    m_skeen_clock_find c id = some (((plc id c.Skeen.Waits : Nat) : Int), decide (∃ w ∈ c.Skeen.Waits, w.Message.Id = id)) := by
  obtain ⟨⟨ck, l, dn⟩⟩ := c
  simp only at hl hu hi ⊢
  have hb := bs_loop l id hl hu hi h2 (l.length + 1) 0 l.length (by omega) (by omega) (plc_le id l) (by omega)
  rw [m_skeen_clock_find, m_slices_BinarySearchFunc_Wait_Wait_int]
  simp only
  have e0 : ((0 : Nat) : Int) = 0 := rfl
  rw [e0] at hb
  rw [hb]
  simp only [Option.bind_some]
  rw [if_pos (by intro h; omega)]
  have hp := plc_at id l hu
  by_cases hc : plc id l < l.length
  · have hg : l.getD ((plc id l : Nat) : Int).toNat default = l[plc id l] := by rw [Int.toNat_natCast]; simp [List.getD, List.getElem?_eq_getElem hc]
    rw [if_pos (by omega), hg, find1 _ _ (hi _ (List.getElem_mem hc)) h2]
    simp only [Option.bind_some, Option.some.injEq, Prod.mk.injEq, true_and]
    rw [decide_eq_true (by omega : ((plc id l : Nat) : Int) < (l.length : Int)), Bool.true_and]
    by_cases hx : ∃ w ∈ l, w.Message.Id = id
    · obtain ⟨h3, h4⟩ := hp.1 hx
      simp only [hx, decide_true]
      simp; omega
    · simp only [hx, decide_false]
      have : ¬ l[plc id l].Message.Id = id := fun k => hx (hp.2 ⟨hc, k⟩)
      simp; omega
  · rw [if_neg (by omega)]
    have : ¬ ∃ w ∈ l, w.Message.Id = id := fun k => hc (hp.1 k).1
    simp only [Option.bind_some, this, decide_false]
    rw [decide_eq_false (by omega), Bool.false_and]
theorem ixS_loop (f : TStamp → Option Bool) (g : TStamp → Bool) (hf : ∀ x, f x = some (g x)) (l : List TStamp) : ∀ n : Nat, (l.any g = true → ∃ k : Nat, m_slices_IndexFunc_Stamp_Stamp_loop1 f l n = some (.inl (k : Int))) ∧ (l.any g = false → m_slices_IndexFunc_Stamp_Stamp_loop1 f l n = some (.inr ())) := by
  induction l with
  | nil => intro n; exact ⟨(fun h => by cases h), fun _ => rfl⟩
  | cons y l ih =>
    intro n
    rw [m_slices_IndexFunc_Stamp_Stamp_loop1, hf, List.any_cons]
    cases hg : g y with
    | true => exact ⟨fun _ => ⟨n, by simp⟩, fun h => by cases h⟩
    | false => simpa using ih (n + 1)
theorem done_eq (c : Tskeen_clock) (id : Int) : m_skeen_clock_done c id = some (c.Skeen.Done.any fun x => x.Id == id) := by
  rw [m_skeen_clock_done, m_slices_ContainsFunc_Stamp_Stamp, m_slices_IndexFunc_Stamp_Stamp]
  have hf : ∀ x : TStamp, (fun x0 => m_skeen_clock_done_1 x0 id) x = some (x.Id == id) := fun x => rfl
  cases h : c.Skeen.Done.any fun x => x.Id == id with
  | true => obtain ⟨k, hk⟩ := (ixS_loop _ _ hf c.Skeen.Done 0).1 h; rw [hk]; simp
  | false => rw [(ixS_loop _ _ hf c.Skeen.Done 0).2 h]; simp
end Go.Proofs
end
section
namespace Go.Proofs
open Go.Tm
set_option linter.unusedSimpArgs false
theorem in_eq (a b c : Int) : m_command_in a b c = some (decide (b ≤ a ∧ a ≤ c)) := by
  rw [m_command_in]; by_cases h : b ≤ a <;> by_cases k : a ≤ c <;> simp [h, k]
instance (n : Int) : Decidable (IdOk n) := by unfold IdOk; infer_instance
theorem cid_eq (a : Int) : m_command_id a = some (decide (IdOk a)) := by
  rw [m_command_id, in_eq, Option.bind_some]; rfl
def MsgOk (m : TMessage) : Prop := m_command_CheckMessage m = some 0
theorem msg_loop (m : TMessage) : ∀ (l : List Int) (n : Nat) (b : Bool), ∃ r, m_command_CheckMessage_loop1 m l n b = some r := by
  intro l
  induction l with
  | nil => intro n b; exact ⟨b, rfl⟩
  | cons y l ih =>
    intro n b
    rw [m_command_CheckMessage_loop1, in_eq]
    cases b with
    | true => simp only [if_true, Option.bind_some]; exact ih _ _
    | false => simp only [Bool.false_eq_true, if_false, Option.bind_some]; exact ih _ _
theorem msg_tot (m : TMessage) : (∃ e, m_command_CheckMessage m = some e) ∧ (m_command_CheckMessage m = some 0 → IdOk m.Id) := by
  obtain ⟨b, hb⟩ := msg_loop m m.Groups 0 ((decide ((m.Groups.length : Int) ≥ 1)) && (decide ((m.Groups.length : Int) ≤ 4)))
  have key : m_command_CheckMessage m = some (if ((((¬ (b = true)) ∨ (¬ (decide (IdOk m.Id) = true))) ∨ (¬ (decide (0 ≤ m.Topic ∧ m.Topic ≤ 3) = true))) ∨ ((m.Key.length : Int) > 16)) ∨ ((m.Body.length : Int) > 64) then 120 else 0) := by
    rw [m_command_CheckMessage, hb]
    simp only [Option.bind_some, cid_eq, in_eq]
    cases b with
    | true =>
      simp only [not_true_eq_false, not_false_eq_true, if_true, Option.bind_some, false_or]
      by_cases hi : IdOk m.Id
      · simp only [hi, decide_true, not_true_eq_false, not_false_eq_true, if_true, Option.bind_some, false_or]
        split <;> rfl
      · simp only [hi, decide_false, Bool.false_eq_true, not_false_eq_true, not_true_eq_false, if_false, Option.bind_some, true_or, if_true]
    | false => simp
  refine ⟨⟨_, key⟩, fun h => ?_⟩
  rw [key] at h
  by_cases hi : IdOk m.Id
  · exact hi
  · simp [hi] at h
theorem MsgOk.id {m : TMessage} (h : MsgOk m) : IdOk m.Id := (msg_tot m).2 h
def StampOk (x : TStamp) : Prop := 0 ≤ x.Time ∧ x.Time ≤ 1073741824 ∧ 0 ≤ x.Id ∧ x.Id < 6291456
instance (x : TStamp) : Decidable (StampOk x) := by unfold StampOk; infer_instance
theorem stc_eq (x : TStamp) : m_stamp_Check x = some (if StampOk x then 0 else 8) := by
  rw [m_stamp_Check]
  by_cases h : StampOk x
  · rw [if_pos h, if_neg (by unfold StampOk at h; omega)]
  · rw [if_neg h, if_pos (by unfold StampOk at h; omega)]
theorem mget_mput (k i v : Int) : ∀ m : List (Int × Int), mget k (mput i v m) = if k = i then some v else mget k m := by
  intro m
  induction m with
  | nil => simp [mput, mget]
  | cons x m ih =>
    rw [mput]
    by_cases h : i = x.1
    · rw [if_pos h]; simp only [mget]
      by_cases hk : k = i
      · simp [hk]
      · simp [hk, show k ≠ x.1 from fun e => hk (e.trans h.symm)]
    · rw [if_neg h]; simp only [mget]
      by_cases hx : k = x.1
      · simp [hx, show ¬ x.1 = i from fun e => h e.symm]
      · rw [if_neg hx, ih, if_neg hx]
def DOk (c : Int) (D : List TStamp) : Prop := (∀ x ∈ D, StampOk x ∧ 1 ≤ x.Time ∧ x.Time ≤ c) ∧ D.Pairwise ltS ∧ (D.map TStamp.Id).Nodup
theorem DOk.pre {c : Int} {D E : List TStamp} (h : DOk c (D ++ E)) : DOk c D :=
  ⟨fun x hx => h.1 x (List.mem_append_left _ hx), (List.pairwise_append.1 h.2.1).1, by have := h.2.2; rw [List.map_append] at this; exact (List.nodup_append.1 this).1⟩
theorem ltS_last {D : List TStamp} (h : D.Pairwise ltS) {p : TStamp} (hp : D.getLast? = some p) : ∀ x ∈ D, x = p ∨ ltS x p := by
  obtain ⟨E, rfl⟩ := List.getLast?_eq_some_iff.1 hp
  intro x hx
  rcases List.mem_append.1 hx with hx | hx
  · exact .inr ((List.pairwise_append.1 h).2.2 x hx p (by simp))
  · simp at hx; exact .inl hx
theorem DOk.snoc {c : Int} {D : List TStamp} (h : DOk c D) (y : TStamp) : DOk c (D ++ [y]) ↔ (StampOk y ∧ 1 ≤ y.Time ∧ y.Time ≤ c) ∧ (∀ p, D.getLast? = some p → ltS p y) ∧ y.Id ∉ D.map TStamp.Id := by
  constructor
  · intro k
    refine ⟨k.1 y (by simp), fun p hp => ?_, fun hm => ?_⟩
    · exact (List.pairwise_append.1 k.2.1).2.2 p (List.mem_of_getLast? hp) y (by simp)
    · have := k.2.2; rw [List.map_append] at this
      exact (List.nodup_append.1 this).2.2 _ hm _ (by simp) rfl
  · rintro ⟨h1, h2, h3⟩
    refine ⟨fun x hx => ?_, ?_, ?_⟩
    · rcases List.mem_append.1 hx with hx | hx
      · exact h.1 x hx
      · simp at hx; subst hx; exact h1
    · rw [List.pairwise_append]
      refine ⟨h.2.1, by simp, fun x hx z hz => ?_⟩
      simp at hz; subst hz
      cases hl : D.getLast? with
      | none => rw [List.getLast?_eq_none_iff] at hl; subst hl; simp at hx
      | some p =>
        rcases ltS_last h.2.1 hl x hx with rfl | hh
        · exact h2 _ hl
        · exact ltS_trans hh (h2 _ hl)
    · rw [List.map_append, List.nodup_append]
      refine ⟨h.2.2, by simp, fun a ha b hb e => ?_⟩
      simp at hb; subst hb; subst e; exact h3 ha
def Mp (D : List TStamp) (m : List (Int × Int)) : Prop := ∀ k, ((mget k m).getD 0 > 0 ↔ k ∈ D.map TStamp.Id)
theorem Mp.snoc {D : List TStamp} {m : List (Int × Int)} (h : Mp D m) (y : TStamp) : Mp (D ++ [y]) (mput y.Id 1 m) := by
  intro k
  rw [mget_mput]
  by_cases e : k = y.Id
  · simp [e]
  · rw [if_neg e, h k]; simp [e]
theorem ck1 (s : TSkeen) : ∀ (l pre : List TStamp) (m : List (Int × Int)) (n3 n4 : Int), DOk s.Clock pre → Mp pre m → (∀ x, pre.getLast? = some x → x = ⟨n3, n4⟩) →
    (DOk s.Clock (pre ++ l) → ∃ m' a b, m_skeen_Check_loop1 s l pre.length m n3 n4 = some (.inr (m', a, b)) ∧ Mp (pre ++ l) m' ∧ ∀ x, (pre ++ l).getLast? = some x → x = ⟨a, b⟩) ∧
    (¬ DOk s.Clock (pre ++ l) → m_skeen_Check_loop1 s l pre.length m n3 n4 = some (.inl 8)) := by
  intro l
  induction l with
  | nil =>
    intro pre m n3 n4 h1 h2 h3
    rw [List.append_nil]
    exact ⟨fun _ => ⟨m, n3, n4, rfl, h2, h3⟩, fun h => absurd h1 h⟩
  | cons y l ih =>
    intro pre m n3 n4 h1 h2 h3
    have ea : pre ++ y :: l = (pre ++ [y]) ++ l := by simp
    have hs := h1.snoc y
    have el : (pre ++ [y]).length = pre.length + 1 := by simp
    have hlast : ∀ x, (pre ++ [y]).getLast? = some x → x = ⟨y.Time, y.Id⟩ := by
      intro x hx; simp at hx; exact hx.symm
    -- the round's test
    have key : ∀ k : Option (Int ⊕ (List (Int × Int) × Int × Int)), (DOk s.Clock (pre ++ [y]) → k = m_skeen_Check_loop1 s l (pre.length + 1) (mput y.Id 1 m) y.Time y.Id) → (¬ DOk s.Clock (pre ++ [y]) → k = some (.inl 8)) → m_skeen_Check_loop1 s (y :: l) pre.length m n3 n4 = k := by
      intro k k1 k2
      rw [m_skeen_Check_loop1, stc_eq]
      simp only [Option.bind_some, less_eq]
      by_cases c1 : StampOk y ∧ 1 ≤ y.Time ∧ y.Time ≤ s.Clock
      · have e1 : ¬ ((¬ (if StampOk y then (0 : Int) else 8) = 0 ∨ y.Time < 1) ∨ y.Time > s.Clock) := by
          rw [if_pos c1.1]; omega
        by_cases c2 : pre.length = 0
        · have hp : pre = [] := List.length_eq_zero_iff.1 c2
          have hl : ∀ p, pre.getLast? = some p → ltS p y := by subst hp; simp
          rw [if_neg (by rw [c2]; simp)]
          simp only [Option.bind_some]
          by_cases c3 : y.Id ∈ pre.map TStamp.Id
          · rw [if_pos (.inr ((h2 _).2 c3)), k2 (fun h => (hs.1 h).2.2 c3)]
          · rw [if_neg, k1 (hs.2 ⟨c1, hl, c3⟩)]
            rintro ((hh | hh) | hh)
            · exact e1 hh
            · omega
            · exact c3 ((h2 _).1 hh)
        · obtain ⟨p, hp⟩ : ∃ p, pre.getLast? = some p := by
            cases hq : pre.getLast? with
            | none => rw [List.getLast?_eq_none_iff] at hq; subst hq; simp at c2
            | some p => exact ⟨p, rfl⟩
          have ep := h3 p hp
          rw [if_pos ⟨e1, by omega⟩]
          simp only [Option.bind_some, decide_eq_true_eq]
          by_cases c4 : ltS ⟨n3, n4⟩ y
          · by_cases c3 : y.Id ∈ pre.map TStamp.Id
            · rw [if_pos (.inr ((h2 _).2 c3)), k2 (fun h => (hs.1 h).2.2 c3)]
            · rw [if_neg, k1 (hs.2 ⟨c1, fun q hq => by rw [hp] at hq; cases hq; rw [ep]; exact c4, c3⟩)]
              rintro ((hh | hh) | hh)
              · exact e1 hh
              · exact hh.2 c4
              · exact c3 ((h2 _).1 hh)
          · rw [if_pos (.inl (.inr ⟨by omega, c4⟩)), k2 (fun h => c4 (by have := (hs.1 h).2.1 p hp; rwa [ep] at this))]
      · have e1 : ((¬ (if StampOk y then (0 : Int) else 8) = 0 ∨ y.Time < 1) ∨ y.Time > s.Clock) := by
          by_cases c0 : StampOk y
          · rw [if_pos c0]; have := c1; simp only [c0, true_and] at this; omega
          · rw [if_neg c0]; exact .inl (.inl (by decide))
        rw [if_neg (by rintro ⟨hh, _⟩; exact hh e1)]
        simp only [Option.bind_some]
        rw [if_pos (.inl (.inl e1)), k2 (fun h => c1 (hs.1 h).1)]
    rw [ea]
    by_cases hd : DOk s.Clock (pre ++ [y])
    · have := ih (pre ++ [y]) (mput y.Id 1 m) y.Time y.Id hd (h2.snoc y) hlast
      rw [el] at this
      rw [key _ (fun _ => rfl) (fun h => absurd hd h)]
      exact this
    · refine ⟨fun h => absurd h.pre hd, fun _ => key _ (fun h => absurd h hd) (fun _ => rfl)⟩
def W1 (c : Int) (D : List TStamp) (w : TWait) : Prop := MsgOk w.Message ∧ 1 ≤ w.Time ∧ w.Time ≤ c ∧ (∀ x ∈ D, x.Id ≠ w.Message.Id) ∧ ∀ x, D.getLast? = some x → ltS x (stW w)
def WOk (c : Int) (D : List TStamp) (W : List TWait) : Prop := (∀ w ∈ W, W1 c D w) ∧ IdsUp W
theorem WOk.pre {c : Int} {D : List TStamp} {V W : List TWait} (h : WOk c D (V ++ W)) : WOk c D V := ⟨fun w hw => h.1 w (List.mem_append_left _ hw), (List.pairwise_append.1 h.2).1⟩
theorem ids_last {W : List TWait} (h : IdsUp W) {p : TWait} (hp : W.getLast? = some p) : ∀ x ∈ W, x = p ∨ x.Message.Id < p.Message.Id := by
  obtain ⟨E, rfl⟩ := List.getLast?_eq_some_iff.1 hp
  intro x hx
  rcases List.mem_append.1 hx with hx | hx
  · exact .inr ((List.pairwise_append.1 h).2.2 x hx p (by simp))
  · simp at hx; exact .inl hx
theorem WOk.snoc {c : Int} {D : List TStamp} {W : List TWait} (h : WOk c D W) (y : TWait) : WOk c D (W ++ [y]) ↔ W1 c D y ∧ ∀ p, W.getLast? = some p → p.Message.Id < y.Message.Id := by
  constructor
  · intro k
    exact ⟨k.1 y (by simp), fun p hp => (List.pairwise_append.1 k.2).2.2 p (List.mem_of_getLast? hp) y (by simp)⟩
  · rintro ⟨h1, h2⟩
    refine ⟨fun x hx => ?_, ?_⟩
    · rcases List.mem_append.1 hx with hx | hx
      · exact h.1 x hx
      · simp at hx; subst hx; exact h1
    · unfold IdsUp
      rw [List.pairwise_append]
      refine ⟨h.2, by simp, fun x hx z hz => ?_⟩
      simp at hz; subst hz
      cases hl : W.getLast? with
      | none => rw [List.getLast?_eq_none_iff] at hl; subst hl; simp at hx
      | some p =>
        rcases ids_last h.2 hl x hx with rfl | hh
        · exact h2 _ hl
        · have := h2 _ hl; omega
theorem ck2 (s : TSkeen) (m : List (Int × Int)) (a b : Int) (hm : Mp s.Done m) (hab : ∀ x, s.Done.getLast? = some x → x = ⟨a, b⟩) : ∀ (l pre : List TWait), s.Waits = pre ++ l → WOk s.Clock s.Done pre →
    (WOk s.Clock s.Done (pre ++ l) → m_skeen_Check_loop2 s m a b l pre.length = some (.inr ())) ∧ (¬ WOk s.Clock s.Done (pre ++ l) → m_skeen_Check_loop2 s m a b l pre.length = some (.inl 8)) := by
  intro l
  induction l with
  | nil =>
    intro pre _ h1
    rw [List.append_nil]
    exact ⟨fun _ => rfl, fun h => absurd h1 h⟩
  | cons y l ih =>
    intro pre hw h1
    have ea : pre ++ y :: l = (pre ++ [y]) ++ l := by simp
    have hs := h1.snoc y
    have el : (pre ++ [y]).length = pre.length + 1 := by simp
    have hprev : ∀ p, pre.getLast? = some p → s.Waits.getD (pre.length - 1) default = p := by
      intro p hp
      obtain ⟨E, rfl⟩ := List.getLast?_eq_some_iff.1 hp
      rw [hw]; simp [List.getD]
    obtain ⟨⟨e, he⟩, _⟩ := msg_tot y.Message
    have hmo : MsgOk y.Message ↔ e = 0 := by unfold MsgOk; rw [he]; simp
    have key : ∀ k : Option (Int ⊕ Unit), (WOk s.Clock s.Done (pre ++ [y]) → k = m_skeen_Check_loop2 s m a b l (pre.length + 1)) → (¬ WOk s.Clock s.Done (pre ++ [y]) → k = some (.inl 8)) → m_skeen_Check_loop2 s m a b (y :: l) pre.length = k := by
      intro k k1 k2
      rw [m_skeen_Check_loop2, he]
      simp only [Option.bind_some, m_skeen_of, less_eq]
      let T1 : Prop := ((((¬ (e = 0) ∨ y.Time < 1) ∨ y.Time > s.Clock) ∨ (((pre.length : Int) > 0) ∧ y.Message.Id ≤ (s.Waits.getD (pre.length - 1) default).Message.Id)) ∨ ((mget y.Message.Id m).getD 0 > 0))
      have t1 : ¬ T1 ↔ (MsgOk y.Message ∧ 1 ≤ y.Time ∧ y.Time ≤ s.Clock ∧ (∀ x ∈ s.Done, x.Id ≠ y.Message.Id)) ∧ (∀ p, pre.getLast? = some p → p.Message.Id < y.Message.Id) := by
        have h3 : ((mget y.Message.Id m).getD 0 > 0) ↔ ¬ ∀ x ∈ s.Done, x.Id ≠ y.Message.Id := by
          rw [hm]; simp
        have h4 : (((pre.length : Int) > 0) ∧ y.Message.Id ≤ (s.Waits.getD (pre.length - 1) default).Message.Id) ↔ ¬ ∀ p, pre.getLast? = some p → p.Message.Id < y.Message.Id := by
          cases hq : pre.getLast? with
          | none => rw [List.getLast?_eq_none_iff] at hq; subst hq; simp
          | some p =>
            rw [hprev p hq]
            have : pre.length > 0 := by
              rcases Nat.eq_zero_or_pos pre.length with h0 | h0
              · rw [List.length_eq_zero_iff.1 h0] at hq; simp at hq
              · exact h0
            constructor
            · rintro ⟨_, h5⟩ h6; have := h6 p rfl; omega
            · intro h5
              refine ⟨by omega, ?_⟩
              apply Decidable.byContradiction
              intro h6
              exact h5 fun q hq' => by cases hq'; omega
        show ¬ ((((¬ (e = 0) ∨ y.Time < 1) ∨ y.Time > s.Clock) ∨ _) ∨ _) ↔ _
        rw [h3, h4, hmo]
        constructor
        · intro h
          refine ⟨⟨?_, ?_, ?_, ?_⟩, ?_⟩
          · apply Decidable.byContradiction; intro q; exact h (.inl (.inl (.inl (.inl q))))
          · apply Decidable.byContradiction; intro q; exact h (.inl (.inl (.inl (.inr (by omega)))))
          · apply Decidable.byContradiction; intro q; exact h (.inl (.inl (.inr (by omega))))
          · apply Classical.byContradiction; intro q; exact h (.inr q)
          · apply Classical.byContradiction; intro q; exact h (.inl (.inr q))
        · rintro ⟨⟨q1, q2, q3, q4⟩, q5⟩ ((((q | q) | q) | q) | q)
          · exact q q1
          · omega
          · omega
          · exact q q5
          · exact q q4
      by_cases c1 : T1
      · have c1' : ¬ (¬ T1 ∧ (s.Done.length : Int) > 0) := fun h => h.1 c1
        show Option.bind (if ¬ T1 ∧ (s.Done.length : Int) > 0 then _ else _) _ = k
        rw [if_neg c1']
        simp only [Option.bind_some]
        show Option.bind (if ¬ T1 ∧ (s.Done.length : Int) > 0 then _ else _) _ = k
        rw [if_neg c1']
        simp only [Option.bind_some]
        rw [if_pos (.inl c1), k2]
        intro h
        have := hs.1 h
        exact t1.2 ⟨⟨this.1.1, this.1.2.1, this.1.2.2.1, this.1.2.2.2.1⟩, this.2⟩ c1
      · have q := t1.1 c1
        by_cases c2 : s.Done = []
        · have c1' : ¬ (¬ T1 ∧ (s.Done.length : Int) > 0) := by rw [c2]; simp
          show Option.bind (if ¬ T1 ∧ (s.Done.length : Int) > 0 then _ else _) _ = k
          rw [if_neg c1']
          simp only [Option.bind_some]
          show Option.bind (if ¬ T1 ∧ (s.Done.length : Int) > 0 then _ else _) _ = k
          rw [if_neg c1']
          simp only [Option.bind_some]
          rw [if_neg, k1 (hs.2 ⟨⟨q.1.1, q.1.2.1, q.1.2.2.1, q.1.2.2.2, by rw [c2]; simp⟩, q.2⟩)]
          rintro (h | h)
          · exact c1 h
          · rw [c2] at h; simp at h
        · obtain ⟨p, hp⟩ : ∃ p, s.Done.getLast? = some p := by
            cases hq : s.Done.getLast? with
            | none => rw [List.getLast?_eq_none_iff] at hq; exact absurd hq c2
            | some p => exact ⟨p, rfl⟩
          have hpos : (s.Done.length : Int) > 0 := by
            have := List.length_pos_iff.2 c2; omega
          have ep := hab p hp
          show Option.bind (if ¬ T1 ∧ (s.Done.length : Int) > 0 then _ else _) _ = k
          rw [if_pos ⟨c1, hpos⟩]
          simp only [Option.bind_some]
          show Option.bind (if ¬ T1 ∧ (s.Done.length : Int) > 0 then _ else _) _ = k
          rw [if_pos ⟨c1, hpos⟩]
          simp only [Option.bind_some, decide_eq_true_eq]
          show (if T1 ∨ ((s.Done.length : Int) > 0 ∧ ¬ ltS ⟨a, b⟩ (stW y)) then _ else _) = k
          by_cases c3 : ltS ⟨a, b⟩ (stW y)
          · rw [if_neg, k1 (hs.2 ⟨⟨q.1.1, q.1.2.1, q.1.2.2.1, q.1.2.2.2, fun x hx => by rw [hab x hx]; exact c3⟩, q.2⟩)]
            rintro (h | h)
            · exact c1 h
            · exact h.2 c3
          · rw [if_pos (.inr ⟨hpos, c3⟩), k2]
            intro h
            exact c3 (by have := (hs.1 h).1.2.2.2.2 p hp; rwa [ep] at this)
    rw [ea]
    by_cases hd : WOk s.Clock s.Done (pre ++ [y])
    · have := ih (pre ++ [y]) (by rw [hw, ea]) hd
      rw [el] at this
      rw [key _ (fun _ => rfl) (fun h => absurd hd h)]
      exact this
    · exact ⟨fun h => absurd h.pre hd, fun _ => key _ (fun h => absurd h hd) (fun _ => rfl)⟩
structure V (s : TSkeen) : Prop where
  c0 : 0 ≤ s.Clock
  c1 : s.Clock ≤ 1073741824
  lw : s.Waits.length ≤ 200
  ld : s.Done.length ≤ 200
  d : DOk s.Clock s.Done
  w : WOk s.Clock s.Done s.Waits
  m : ∀ y l, s.Waits = y :: l → (minW y l).Final = false
theorem sk_check (s : TSkeen) : ∃ e, m_skeen_Check s = some e ∧ (e = 0 ↔ V s) := by
  rw [m_skeen_Check]
  by_cases h0 : ((s.Clock < 0 ∨ s.Clock > 1073741824) ∨ (s.Waits.length : Int) > 200) ∨ (s.Done.length : Int) > 200
  · rw [if_pos h0]
    refine ⟨8, rfl, (by intro h; cases h), fun h => ?_⟩
    have := h.c0; have := h.c1; have := h.lw; have := h.ld; omega
  rw [if_neg h0]
  have d0 : DOk s.Clock [] := ⟨by simp, by simp, by simp⟩
  have hc := ck1 s s.Done [] [] 0 0 d0 (by intro k; simp [mget]) (by simp)
  rw [List.nil_append] at hc
  by_cases hd : DOk s.Clock s.Done
  · obtain ⟨m, a, b, h1, h2, h3⟩ := hc.1 hd
    have h1 : m_skeen_Check_loop1 s s.Done 0 [] 0 0 = _ := h1
    rw [h1]
    simp only [Option.bind_some]
    have w0 : WOk s.Clock s.Done [] := ⟨by simp, by simp [IdsUp]⟩
    have hc2 := ck2 s m a b h2 h3 s.Waits [] rfl w0
    rw [List.nil_append] at hc2
    by_cases hw : WOk s.Clock s.Done s.Waits
    · have h4 : m_skeen_Check_loop2 s m a b s.Waits 0 = _ := hc2.1 hw
      rw [h4]
      simp only [Option.bind_some]
      cases hl : s.Waits with
      | nil =>
        refine ⟨0, by simp, fun _ => ⟨by omega, by omega, by omega, by omega, hd, hw, by rw [hl]; simp⟩, fun _ => rfl⟩
      | cons y l =>
        rw [if_pos (by simp only [List.length_cons]; omega), min_eq y l (by rw [hl] at h0; simp at h0; omega)]
        simp only [Option.bind_some]
        by_cases hf : (minW y l).Final = true
        · rw [if_pos ⟨by simp only [List.length_cons]; omega, hf⟩]
          refine ⟨8, rfl, (by intro h; cases h), fun h => ?_⟩
          have := h.m y l hl
          rw [hf] at this; cases this
        · rw [if_neg (fun h => hf h.2)]
          refine ⟨0, rfl, fun _ => ⟨by omega, by omega, by omega, by omega, hd, hw, fun y' l' h => ?_⟩, fun _ => rfl⟩
          rw [hl] at h; cases h
          simpa using hf
    · have h4 : m_skeen_Check_loop2 s m a b s.Waits 0 = _ := hc2.2 hw
      rw [h4]
      simp only [Option.bind_some]
      exact ⟨8, rfl, (by intro h; cases h), fun h => absurd h.w hw⟩
  · have h1 : m_skeen_Check_loop1 s s.Done 0 [] 0 0 = _ := hc.2 hd
    rw [h1]
    simp only [Option.bind_some]
    exact ⟨8, rfl, (by intro h; cases h), fun h => absurd h.d hd⟩
end Go.Proofs
end
section
namespace Go.Proofs
open Go.Tm
set_option linter.unusedSimpArgs false
theorem msg_false (m : TMessage) : ∀ (l : List Int) (n : Nat), m_command_CheckMessage_loop1 m l n false = some false := by
  intro l
  induction l with
  | nil => intro n; rfl
  | cons y l ih => intro n; rw [m_command_CheckMessage_loop1]; simpa using ih (n + 1)
theorem MsgOk.groups {m : TMessage} (h : MsgOk m) : m.Groups.length ≤ 4 := by
  apply Decidable.byContradiction
  intro hc
  unfold MsgOk at h
  have e : ((decide ((m.Groups.length : Int) ≥ 1)) && (decide ((m.Groups.length : Int) ≤ 4))) = false := by
    rw [Bool.and_eq_false_iff]; right; simp; omega
  rw [m_command_CheckMessage, e, msg_false] at h
  simp [cid_eq, in_eq] at h
theorem sm_eq (a b : TMessage) : m_command_SameMessage a b = some (decide (a = b)) := by
  rw [m_command_SameMessage, equal_eq]
  obtain ⟨a1, a2, a3, a4, a5⟩ := a
  obtain ⟨b1, b2, b3, b4, b5⟩ := b
  by_cases h : a1 = b1
  · by_cases h2 : a2 = b2 <;> by_cases h3 : a3 = b3 <;> by_cases h4 : a4 = b4 <;> by_cases h5 : a5 = b5 <;> simp [h, h2, h3, h4, h5]
  · simp [h]
theorem cs_eq (a b : TCommand) : m_command_Same a b = some (decide (a = b)) := by
  rw [m_command_Same, sm_eq, equal_eq]
  obtain ⟨a1, a2, a3, a4, a5, a6, a7, a8⟩ := a
  obtain ⟨b1, b2, b3, b4, b5, b6, b7, b8⟩ := b
  by_cases h : a1 = b1
  · by_cases h2 : a2 = b2
    · by_cases h3 : a3 = b3
      · by_cases h4 : a4 = b4
        · by_cases h5 : a5 = b5 <;> by_cases h6 : a6 = b6 <;> by_cases h7 : a7 = b7 <;> by_cases h8 : a8 = b8 <;> simp [h, h2, h3, h4, h5, h6, h7, h8]
        · simp [h, h2, h3, h4]
      · simp [h, h2, h3]
    · simp [h, h2]
  · simp [h]
theorem plain_tot (c : TCommand) : ∃ p ok, m_command_plain c = some (p, ok) ∧ (c.Kind = 1 → ok = true → MsgOk c.Message) ∧ (c.Kind = 2 → ok = true → IdOk c.Id ∧ 1 ≤ c.Time ∧ c.Time ≤ 1073741824) := by
  rw [m_command_plain, cid_eq]
  simp only [Option.bind_some]
  obtain ⟨v2, h2⟩ : ∃ v2, (if decide (IdOk c.Id) = true then m_command_in c.Topic 0 3 else some default) = some v2 := by split <;> exact ⟨_, by first | exact in_eq _ _ _ | rfl⟩
  rw [h2]
  simp only [Option.bind_some]
  obtain ⟨v3, h3⟩ : ∃ v3, (if decide (IdOk c.Id) = true ∧ v2 = true then m_command_in c.N 0 1073741824 else some default) = some v3 := by split <;> exact ⟨_, by first | exact in_eq _ _ _ | rfl⟩
  rw [h3]
  simp only [Option.bind_some]
  by_cases k0 : c.Kind = 0
  · rw [if_pos k0]; exact ⟨_, _, rfl, by intro h; omega, by intro h; omega⟩
  rw [if_neg k0]
  by_cases k1 : c.Kind = 1
  · rw [if_pos k1]
    obtain ⟨e, he⟩ := (msg_tot c.Message).1
    rw [he]
    exact ⟨_, _, rfl, fun _ h => by rw [MsgOk, he]; simp at h; rw [h], by intro h; omega⟩
  rw [if_neg k1]
  by_cases k2 : c.Kind = 2
  · rw [if_pos k2]
    by_cases hi : IdOk c.Id
    · simp only [hi, decide_true, if_true, Option.bind_some, in_eq]
      exact ⟨_, _, rfl, by intro h; omega, fun _ h => ⟨trivial, by simpa using h⟩⟩
    · simp only [hi, decide_false, Bool.false_eq_true, if_false, Option.bind_some]
      exact ⟨_, _, rfl, by intro h; omega, fun _ h => by simp at h⟩
  rw [if_neg k2]
  by_cases k3 : c.Kind = 3
  · rw [if_pos k3, qcheck_eq]
    exact ⟨_, _, rfl, by intro h; omega, by intro h; omega⟩
  rw [if_neg k3]
  by_cases k4 : c.Kind = 4
  · rw [if_pos k4]
    obtain ⟨v8, h8⟩ : ∃ v8, (if (decide (IdOk c.Id) = true ∧ v2 = true) ∧ v3 = true then m_command_in c.Who 0 7 else some default) = some v8 := by split <;> exact ⟨_, by first | exact in_eq _ _ _ | rfl⟩
    rw [h8]
    exact ⟨_, _, rfl, by intro h; omega, by intro h; omega⟩
  rw [if_neg k4]
  by_cases k5 : c.Kind = 5
  · rw [if_pos k5]
    simp only [Option.bind_some, k5]
    exact ⟨_, _, rfl, by intro h; omega, by intro h; omega⟩
  · rw [if_neg k5]
    simp only [Option.bind_some]
    by_cases k6 : (c.Kind == 6) = true
    · rw [if_pos k6]; exact ⟨_, _, rfl, by intro h; omega, by intro h; omega⟩
    · rw [if_neg k6]; exact ⟨_, _, rfl, by intro h; omega, by intro h; omega⟩
theorem cmd_tot (c : TCommand) : ∃ e, m_command_Check c = some e ∧ (e = 0 → (c.Kind = 1 → MsgOk c.Message) ∧ (c.Kind = 2 → IdOk c.Id ∧ 1 ≤ c.Time ∧ c.Time ≤ 1073741824)) := by
  obtain ⟨p, ok, h, h1, h2⟩ := plain_tot c
  rw [m_command_Check, h]
  simp only [Option.bind_some, cs_eq]
  cases ok with
  | false => exact ⟨120, by simp, by intro h; cases h⟩
  | true =>
    simp only [not_true_eq_false, not_false_eq_true, if_true, Option.bind_some, false_or]
    split
    · exact ⟨120, rfl, by intro h; cases h⟩
    · exact ⟨0, rfl, fun _ => ⟨fun k => h1 k rfl, fun k => h2 k rfl⟩⟩
theorem clone_int (l : List Int) (h : l.length * 8 ≤ 140737488355328) : m_slices_Clone_int_int l = some l := by rw [m_slices_Clone_int_int, if_pos h]
theorem twin_loop (v : List TWait) (hv : v.length < 1000000) : ∀ (fu k : Nat) (l : List TWait), l.length = v.length → v.length - k < fu → k ≤ v.length → (∀ w ∈ l, w.Message.Groups.length * 8 ≤ 140737488355328) → m_skeen_Twin_loop1 v fu l (k : Int) = some l := by
  intro fu
  induction fu with
  | zero => intro k l _ h; omega
  | succ fu ih =>
    intro k l hl h hk hg
    rw [m_skeen_Twin_loop1]
    by_cases hlt : k < v.length
    · have hk' : k < l.length := by omega
      have hgd : l.getD (k : Int).toNat default = l[k] := by simp [List.getD, List.getElem?_eq_getElem hk']
      have hw : wr .i64 ((k : Int) + 1) = ((k + 1 : Nat) : Int) := wr_eq _ _ (by show (-9223372036854775808 : Int) ≤ _; omega) (by show _ ≤ (9223372036854775807 : Int); omega)
      rw [if_pos (by omega), if_pos (by omega), hgd, clone_int _ (hg _ (List.getElem_mem hk'))]
      simp only [Option.bind_some]
      have e : l.set (k : Int).toNat l[k] = l := by rw [Int.toNat_natCast]; simp
      rw [if_pos (by omega)]
      show m_skeen_Twin_loop1 v fu (l.set (k : Int).toNat l[k]) (wr .i64 ((k : Int) + 1)) = _
      rw [e, hw]
      exact ih (k + 1) l hl (by omega) (by omega) hg
    · rw [if_neg (by omega), if_pos (by omega)]
theorem twin_sk (s : TSkeen) (h1 : s.Waits.length ≤ 1000) (h2 : s.Done.length ≤ 1000) (h3 : ∀ w ∈ s.Waits, w.Message.Groups.length * 8 ≤ 140737488355328) : m_skeen_Twin s = some s := by
  rw [m_skeen_Twin, m_slices_Clone_Wait_Wait, if_pos (by omega), m_slices_Clone_Stamp_Stamp, if_pos (by omega)]
  simp only [Option.bind_some]
  have := twin_loop s.Waits (by omega) (s.Waits.length + 1) 0 s.Waits rfl (by omega) (by omega) h3
  rw [show ((0 : Nat) : Int) = 0 from rfl] at this
  rw [this]
  rfl
structure J (c : Int) (W : List TWait) (D : List TStamp) : Prop where
  c1 : c ≤ 1073741824
  d : DOk c D
  w : WOk c D W
theorem V.j {s : TSkeen} (h : V s) : J s.Clock s.Waits s.Done := ⟨h.c1, h.d, h.w⟩
theorem J.ids {c : Int} {W : List TWait} {D : List TStamp} (h : J c W D) : ∀ w ∈ W, IdOk w.Message.Id := fun w hw => (h.w.1 w hw).1.id
theorem J.mono {c c' : Int} {W : List TWait} {D : List TStamp} (h : J c W D) (h1 : c ≤ c') (h2 : c' ≤ 1073741824) : J c' W D :=
  ⟨h2, ⟨fun x hx => by have := h.d.1 x hx; exact ⟨this.1, this.2.1, by omega⟩, h.d.2⟩, ⟨fun w hw => by have := h.w.1 w hw; exact ⟨this.1, this.2.1, by have := this.2.2.1; omega, this.2.2.2⟩, h.w.2⟩⟩
theorem at_id {W : List TWait} (hu : IdsUp W) {a b : TWait} (ha : a ∈ W) (hb : b ∈ W) (h : a.Message.Id = b.Message.Id) : a = b := by
  obtain ⟨i, hi, rfl⟩ := List.getElem_of_mem ha
  obtain ⟨j, hj, rfl⟩ := List.getElem_of_mem hb
  rcases Nat.lt_trichotomy i j with hh | hh | hh
  · have := List.pairwise_iff_getElem.1 hu i j hi hj hh; omega
  · subst hh; rfl
  · have := List.pairwise_iff_getElem.1 hu j i hj hi hh; omega
theorem final_eq (s : TSkeen) (id t : Int) (hl : s.Waits.length < 1000000) (hj : J s.Clock s.Waits s.Done) (hi : IdOk id) :
    (m_skeen_clock_final ⟨s⟩ id t = some ⟨s⟩ ∧ ∀ w ∈ s.Waits, w.Message.Id = id → w.Final = true ∨ t < w.Time) ∨
    ∃ (k : Nat) (hk : k < s.Waits.length), s.Waits[k].Message.Id = id ∧ s.Waits[k].Final = false ∧ s.Waits[k].Time ≤ t ∧ m_skeen_clock_final ⟨s⟩ id t = some ⟨⟨max s.Clock t, s.Waits.set k ⟨s.Waits[k].Message, t, true⟩, s.Done⟩⟩ := by
  rw [m_skeen_clock_final, find_eq ⟨s⟩ id hl hj.w.2 hj.ids hi]
  simp only [Option.bind_some]
  have hp := plc_at id s.Waits hj.w.2
  by_cases hx : ∃ w ∈ s.Waits, w.Message.Id = id
  · obtain ⟨hk, he⟩ := hp.1 hx
    have hgd : s.Waits.getD ((plc id s.Waits : Nat) : Int).toNat default = s.Waits[plc id s.Waits] := by rw [Int.toNat_natCast]; simp [List.getD, List.getElem?_eq_getElem hk]
    have hgd2 : ∀ x : TWait, (s.Waits.set ((plc id s.Waits : Nat) : Int).toNat x).getD ((plc id s.Waits : Nat) : Int).toNat default = x := by
      intro x; rw [Int.toNat_natCast]; simp [List.getD, hk]
    simp only [hx, decide_true, not_true_eq_false, not_false_eq_true, false_or, hgd, hgd2]
    rw [if_pos (by intro _; omega), if_pos (by intro _; omega)]
    by_cases hf : s.Waits[plc id s.Waits].Final = true ∨ t < s.Waits[plc id s.Waits].Time
    · left
      rw [if_pos hf]
      refine ⟨rfl, fun w hw hid => ?_⟩
      have := at_id hj.w.2 hw (List.getElem_mem hk) (hid.trans he.symm)
      rw [this]; exact hf
    · right
      rw [if_neg hf, if_pos (by omega), if_pos (by simp only [List.length_set]; omega)]
      refine ⟨plc id s.Waits, hk, he, ?_, by omega, ?_⟩
      · cases hq : s.Waits[plc id s.Waits].Final with
        | false => rfl
        | true => exact absurd (.inl hq) hf
      · rw [Int.toNat_natCast, List.set_set]
  · left
    have hx' : ∀ w ∈ s.Waits, w.Message.Id ≠ id := fun w hw he => hx ⟨w, hw, he⟩
    simp only [hx, decide_false, Bool.false_eq_true, not_false_eq_true, not_true_eq_false, false_implies, if_true, true_or]
    exact ⟨trivial, fun w hw he => absurd he (hx' w hw)⟩
theorem J.set {c t : Int} {W : List TWait} {D : List TStamp} (h : J c W D) (k : Nat) (hk : k < W.length) (h1 : W[k].Time ≤ t) (h2 : t ≤ 1073741824) : J (max c t) (W.set k ⟨W[k].Message, t, true⟩) D := by
  have h' := h.mono (c' := max c t) (Int.le_max_left _ _) (by have := h.c1; omega)
  refine ⟨h'.c1, h'.d, fun w hw => ?_, ?_⟩
  · rcases List.mem_or_eq_of_mem_set hw with hw | rfl
    · exact h'.w.1 w hw
    · have hm := h'.w.1 _ (List.getElem_mem hk)
      refine ⟨hm.1, by have := hm.2.1; show 1 ≤ t; omega, Int.le_max_right _ _, hm.2.2.2.1, fun x hx => ?_⟩
      have hl := hm.2.2.2.2 x hx
      show ltS x ⟨t, W[k].Message.Id⟩
      unfold ltS stW at *
      simp only at hl ⊢
      omega
  · have hu := h.w.2
    unfold IdsUp at hu ⊢
    rw [← List.pairwise_map (f := fun w : TWait => w.Message.Id) (R := fun a b => a < b)] at hu ⊢
    rw [List.map_set]
    have : (W.map fun w : TWait => w.Message.Id).set k W[k].Message.Id = W.map fun w : TWait => w.Message.Id := by
      apply List.ext_getElem
      · simp
      · intro i h1 h2
        rw [List.getElem_set]
        split
        · rename_i e; subst e; simp
        · rfl
    rw [this]
    exact hu
theorem assign_eq (s : TSkeen) (g : Int) (m : TMessage) (hl : s.Waits.length ≤ 200) (hc0 : 0 ≤ s.Clock) (hj : J s.Clock s.Waits s.Done) (hm : MsgOk m) :
    (∃ e, m_skeen_clock_assign ⟨s⟩ g m = some (e, ⟨s⟩)) ∨
    (g ∈ m.Groups ∧ s.Clock < 1073741824 ∧ s.Waits.length < 200 ∧ (∀ x ∈ s.Done, x.Id ≠ m.Id) ∧ (∀ w ∈ s.Waits, w.Message.Id ≠ m.Id) ∧
      m_skeen_clock_assign ⟨s⟩ g m = some (0, ⟨⟨s.Clock + 1, s.Waits.take (plc m.Id s.Waits) ++ ⟨m, s.Clock + 1, false⟩ :: s.Waits.drop (plc m.Id s.Waits), s.Done⟩⟩)) := by
  rw [m_skeen_clock_assign, find_eq ⟨s⟩ m.Id (by show s.Waits.length < 1000000; omega) hj.w.2 hj.ids hm.id, done_eq]
  simp only [Option.bind_some]
  by_cases hx : ∃ w ∈ s.Waits, w.Message.Id = m.Id
  · left
    simp only [hx, decide_true, not_true_eq_false, if_false, true_or, Option.bind_some, if_true]
    exact ⟨0, rfl⟩
  · have hx' : ∀ w ∈ s.Waits, w.Message.Id ≠ m.Id := fun w hw he => hx ⟨w, hw, he⟩
    simp only [hx, decide_false, Bool.false_eq_true, not_false_eq_true, if_true, false_or, Option.bind_some]
    cases hd : s.Done.any fun x => x.Id == m.Id with
    | true =>
      left
      simp only [not_true_eq_false, if_false, Option.bind_some, true_or, if_true]
      exact ⟨0, rfl⟩
    | false =>
      have hd' : ∀ x ∈ s.Done, x.Id ≠ m.Id := by
        intro x hxd he
        have := List.any_eq_false.1 hd x hxd
        simp [he] at this
      have hg := has_eq m.Groups g
      rw [m_quorum_Has] at hg
      have hg : m_slices_Contains_int_int m.Groups g = some (decide (g ∈ m.Groups)) := by
        cases hq : m_slices_Contains_int_int m.Groups g with
        | none => rw [hq] at hg; cases hg
        | some b => rw [hq] at hg; simpa using hg
      simp only [Bool.false_eq_true, not_false_eq_true, if_true, false_or, Option.bind_some, hg]
      by_cases hgm : g ∈ m.Groups
      · simp only [hgm, decide_true, not_true_eq_false, if_false]
        by_cases hfull : s.Clock = 1073741824 ∨ (s.Waits.length : Int) = 200
        · left; rw [if_pos hfull]; exact ⟨9, rfl⟩
        · right
          have hc1 := hj.c1
          rw [if_neg hfull, clone_int _ (by have := hm.groups; omega)]
          simp only [Option.bind_some]
          have hple := plc_le m.Id s.Waits
          rw [if_pos (by omega), if_pos (by omega), wr_eq _ _ (by show (-9223372036854775808 : Int) ≤ _; omega) (by show _ ≤ (9223372036854775807 : Int); omega), Int.toNat_natCast]
          exact ⟨trivial, by omega, by omega, hd', hx', rfl⟩
      · left
        simp only [hgm, decide_false, Bool.false_eq_true, not_false_eq_true, if_true]
        exact ⟨0, rfl⟩
theorem J.ins {c : Int} {W : List TWait} {D : List TStamp} (h : J c W D) (m : TMessage) (hm : MsgOk m) (h0 : 0 ≤ c) (h1 : c < 1073741824) (hD : ∀ x ∈ D, x.Id ≠ m.Id) (hW : ∀ w ∈ W, w.Message.Id ≠ m.Id) :
    J (c + 1) (W.take (plc m.Id W) ++ ⟨m, c + 1, false⟩ :: W.drop (plc m.Id W)) D := by
  have h' := h.mono (c' := c + 1) (by omega) (by omega)
  refine ⟨h'.c1, h'.d, fun w hw => ?_, ?_⟩
  · have : w = ⟨m, c + 1, false⟩ ∨ w ∈ W := by
      rcases List.mem_append.1 hw with hw | hw
      · exact .inr (List.mem_of_mem_take hw)
      · rcases List.mem_cons.1 hw with hw | hw
        · exact .inl hw
        · exact .inr (List.mem_of_mem_drop hw)
    rcases this with rfl | hw
    · refine ⟨hm, by show 1 ≤ c + 1; omega, Int.le_refl _, hD, fun x hx => ?_⟩
      have := (h.d.1 x (List.mem_of_getLast? hx)).2.2
      exact .inl (by show x.Time < c + 1; omega)
    · exact h'.w.1 w hw
  · have hu := h.w.2
    have hlt := plc_lt m.Id W hu
    have hple := plc_le m.Id W
    have t1 : ∀ w ∈ W.take (plc m.Id W), w.Message.Id < m.Id := by
      intro w hw
      obtain ⟨i, hi, rfl⟩ := List.getElem_of_mem hw
      rw [List.getElem_take]
      have : i < plc m.Id W := by simp at hi; omega
      exact (hlt i (by omega)).2 this
    have t2 : ∀ w ∈ W.drop (plc m.Id W), m.Id < w.Message.Id := by
      intro w hw
      have hwW := List.mem_of_mem_drop hw
      obtain ⟨i, hi, rfl⟩ := List.getElem_of_mem hw
      have hne := hW _ hwW
      rw [List.getElem_drop] at hne ⊢
      have hi' : plc m.Id W + i < W.length := by simp at hi; omega
      have : ¬ W[plc m.Id W + i].Message.Id < m.Id := fun k => by have := (hlt _ hi').1 k; omega
      omega
    unfold IdsUp
    rw [List.pairwise_append]
    refine ⟨hu.sublist (List.take_sublist _ _), List.pairwise_cons.2 ⟨t2, hu.sublist (List.drop_sublist _ _)⟩, fun a ha b hb => ?_⟩
    have ha' := t1 a ha
    rcases List.mem_cons.1 hb with rfl | hb
    · exact ha'
    · have := t2 b hb; omega
theorem del_loop (c0 : Tskeen_clock) (c : Int) : ∀ (fu : Nat) (W : List TWait) (D : List TStamp) (M : List TMessage), W.length < fu → J c W D → W.length + D.length ≤ 1000 → M.length + W.length ≤ 1000 →
    ∃ (ws W' : List TWait), m_skeen_clock_deliver_loop1 c0 fu W D M = some (W', D ++ ws.map stW, M ++ ws.map TWait.Message) ∧ J c W' (D ++ ws.map stW) ∧ (∀ y l, W' = y :: l → (minW y l).Final = false) ∧
      (∀ w ∈ ws, w ∈ W ∧ w.Final = true) ∧ (∀ w ∈ W', w ∈ W) ∧ (∀ w ∈ W, w ∈ W' ∨ w ∈ ws) ∧ W'.length + ws.length = W.length := by
  intro fu
  induction fu with
  | zero => intro W D M h; omega
  | succ fu ih =>
    intro W D M h hj h1 h2
    rw [m_skeen_clock_deliver_loop1]
    cases hW : W with
    | nil =>
      refine ⟨[], [], by simp, by subst hW; simpa using hj, by simp, by simp, by simp, by simp, rfl⟩
    | cons y l =>
      rw [if_pos (by simp only [List.length_cons]; omega), minw_eq y l (by rw [hW] at h1; simp at h1; omega)]
      simp only [Option.bind_some]
      have hmem : minW y l ∈ W := by
        rw [hW]
        rcases minW_mem l y with hh | hh
        · rw [hh]; simp
        · exact List.mem_cons_of_mem _ hh
      by_cases hf : (minW y l).Final = true
      · rw [if_neg (by simp [hf])]
        have hfd := find_eq ⟨⟨c0.Skeen.Clock, W, D⟩⟩ (minW y l).Message.Id (by show W.length < 1000000; omega) hj.w.2 hj.ids (hj.ids _ hmem)
        rw [← hW, hfd]
        simp only [Option.bind_some]
        obtain ⟨hk, he⟩ := (plc_at (minW y l).Message.Id W hj.w.2).1 ⟨_, hmem, rfl⟩
        generalize hK : plc (minW y l).Message.Id W = K at hk he
        have hat : W[K] = minW y l := at_id hj.w.2 (List.getElem_mem hk) hmem he
        rw [if_pos (by omega), if_pos (by omega)]
        have e1 : m_skeen_of (minW y l) = some (stW (minW y l)) := rfl
        rw [e1]
        simp only [Option.bind_some, List.length_cons, List.length_nil, Int.toNat_natCast]
        have hWl : W.length = l.length + 1 := by rw [hW]; simp
        rw [if_pos (by omega), if_pos (by omega)]
        have hv := hj.w.1 _ hmem
        have hsub : ∀ w ∈ W.eraseIdx K, w ∈ W := fun w hw => List.mem_of_mem_eraseIdx hw
        have hne : ∀ w ∈ W.eraseIdx K, w.Message.Id ≠ (minW y l).Message.Id := by
          intro w hw hid
          obtain ⟨i, hi, hik, rfl⟩ := List.mem_eraseIdx_iff_getElem.1 hw
          have e2 := at_id hj.w.2 (List.getElem_mem hi) hmem hid
          rw [← hat] at hid
          rcases Nat.lt_or_gt_of_ne hik with hh | hh
          · have := List.pairwise_iff_getElem.1 hj.w.2 i K hi hk hh; omega
          · have := List.pairwise_iff_getElem.1 hj.w.2 K i hk hi hh; omega
        have hle : ∀ w ∈ W, ¬ ltS (stW w) (stW (minW y l)) := by
          intro w hw
          rw [hW] at hw
          rcases List.mem_cons.1 hw with rfl | hw
          · exact (minW_le l _).1
          · exact (minW_le l y).2 w hw
        have hid := hv.1.id
        have hJ : J c (W.eraseIdx K) (D ++ [stW (minW y l)]) := by
          refine ⟨hj.c1, (hj.d.snoc _).2 ⟨⟨⟨?_, ?_, hid.1, ?_⟩, hv.2.1, hv.2.2.1⟩, hv.2.2.2.2, fun hm => ?_⟩, fun w hw => ?_, hj.w.2.sublist (List.eraseIdx_sublist _ _)⟩
          · have := hv.2.1; show 0 ≤ (minW y l).Time; omega
          · have := hv.2.2.1; have := hj.c1; show (minW y l).Time ≤ 1073741824; omega
          · have := hid.2; show (minW y l).Message.Id < 6291456; omega
          · obtain ⟨x, hx, he2⟩ := List.mem_map.1 hm
            exact hv.2.2.2.1 x hx he2
          · have hw1 := hj.w.1 w (hsub w hw)
            refine ⟨hw1.1, hw1.2.1, hw1.2.2.1, fun x hx => ?_, fun x hx => ?_⟩
            · rcases List.mem_append.1 hx with hx | hx
              · exact hw1.2.2.2.1 x hx
              · simp at hx; subst hx; exact fun e => hne w hw e.symm
            · simp at hx; subst hx
              exact ltS_total (fun e => hne w hw e.symm) (hle w (hsub w hw))
        have hlen : (W.eraseIdx K).length = W.length - 1 := List.length_eraseIdx_of_lt hk
        obtain ⟨ws, W', g1, g2, g3, g4, g5, g6, g7⟩ := ih (W.eraseIdx K) (D ++ [stW (minW y l)]) (M ++ [(minW y l).Message]) (by omega) hJ (by simp; omega) (by simp; omega)
        refine ⟨minW y l :: ws, W', ?_, ?_, g3, ?_, ?_, ?_, ?_⟩
        · rw [g1]; simp
        · simpa using g2
        · intro w hw
          rcases List.mem_cons.1 hw with rfl | hw
          · exact ⟨hmem, hf⟩
          · exact ⟨hsub w (g4 w hw).1, (g4 w hw).2⟩
        · intro w hw; exact hsub w (g5 w hw)
        · intro w hw
          by_cases hwv : w = minW y l
          · right; simp [hwv]
          · have : w ∈ W.eraseIdx K := by
              obtain ⟨i, hi, rfl⟩ := List.getElem_of_mem hw
              exact List.mem_eraseIdx_iff_getElem.2 ⟨i, hi, fun e => hwv (by subst e; exact hat), rfl⟩
            rcases g6 w this with hh | hh
            · exact .inl hh
            · exact .inr (List.mem_cons_of_mem _ hh)
        · simp only [List.length_cons]; omega
      · rw [if_pos (by simpa using hf)]
        refine ⟨[], W, by simp [hW], by simpa using hj, fun y' l' hh => ?_, by simp, by intro w hw; rw [← hW]; exact hw, by intro w hw; left; rw [hW]; exact hw, by simp [hW]⟩
        rw [hW] at hh; cases hh; simpa using hf
def Step (s : TSkeen) (g : Int) (c : TCommand) (W : List TWait) (ck : Int) : Prop :=
  (W = s.Waits ∧ ck = s.Clock) ∨
  (c.Kind = 1 ∧ g ∈ c.Message.Groups ∧ ck = s.Clock + 1 ∧ W = s.Waits.take (plc c.Message.Id s.Waits) ++ ⟨c.Message, s.Clock + 1, false⟩ :: s.Waits.drop (plc c.Message.Id s.Waits)) ∨
  (c.Kind = 2 ∧ ck = max s.Clock c.Time ∧ ∃ (k : Nat) (hk : k < s.Waits.length), s.Waits[k].Message.Id = c.Id ∧ s.Waits[k].Final = false ∧ s.Waits[k].Time ≤ c.Time ∧ W = s.Waits.set k ⟨s.Waits[k].Message, c.Time, true⟩)
def zSk : TSkeen := ⟨0, [], []⟩
theorem check_ok {s : TSkeen} (h : V s) : m_skeen_Check s = some 0 := by
  obtain ⟨e, he, hi⟩ := sk_check s
  rw [he, hi.2 h]
theorem apply_ok (s : TSkeen) (g : Int) (c : TCommand) (h : V s) :
    (∃ e, e ≠ 0 ∧ m_skeen_Apply s g c = some (zSk, [], e) ∧ (0 ≤ g ∧ g < 4 → m_command_Check c = some 0 → c.Kind = 2 → s.Waits.length + s.Done.length > 200)) ∨
    ∃ (W : List TWait) (ck : Int) (ws W' : List TWait), Step s g c W ck ∧ m_skeen_Apply s g c = some (⟨ck, W', s.Done ++ ws.map stW⟩, ws.map TWait.Message, 0) ∧ V ⟨ck, W', s.Done ++ ws.map stW⟩ ∧ s.Clock ≤ ck ∧ 
      (∀ w ∈ ws, w ∈ W ∧ w.Final = true) ∧ (∀ w ∈ W', w ∈ W) ∧ (∀ w ∈ W, w ∈ W' ∨ w ∈ ws) ∧ W'.length + ws.length = W.length ∧ 
      (c.Kind = 2 → ∀ w ∈ s.Waits, w.Message.Id = c.Id → w.Final = false → w.Time ≤ c.Time → ∃ (k : Nat) (hk : k < s.Waits.length), s.Waits[k] = w ∧ W = s.Waits.set k ⟨w.Message, c.Time, true⟩) := by
  have hj := h.j
  have hlw := h.lw
  have hld := h.ld
  rw [m_skeen_Apply, check_ok h]
  simp only [Option.bind_some, not_true_eq_false, if_false]
  by_cases hg : g < 0 ∨ g ≥ 4
  · rw [if_pos hg]
    exact .inl ⟨2, by omega, rfl, by intro h; omega⟩
  rw [if_neg hg]
  obtain ⟨e, he, hc⟩ := cmd_tot c
  rw [he]
  simp only [Option.bind_some]
  by_cases he0 : e = 0
  case neg => rw [if_pos he0]; exact .inl ⟨e, he0, rfl, by intro _ h; exact absurd (Option.some.inj h) he0⟩
  obtain ⟨hc1, hc2⟩ := hc he0
  have htw : m_skeen_Twin s = some s := twin_sk s (by omega) (by omega) (fun w hw => by have := (hj.w.1 w hw).1.groups; omega)
  rw [if_neg (by omega), htw]
  simp only [Option.bind_some]
  -- the end: what is delivered
  have fin : ∀ (W : List TWait) (ck : Int), J ck W s.Done → 0 ≤ ck → W.length ≤ 200 → ∃ (ws W' : List TWait), m_skeen_clock_deliver ⟨⟨ck, W, s.Done⟩⟩ = some (ws.map TWait.Message, ⟨⟨ck, W', s.Done ++ ws.map stW⟩⟩) ∧
      ((s.Done ++ ws.map stW).length ≤ 200 → V ⟨ck, W', s.Done ++ ws.map stW⟩) ∧ (∀ w ∈ ws, w ∈ W ∧ w.Final = true) ∧ (∀ w ∈ W', w ∈ W) ∧ (∀ w ∈ W, w ∈ W' ∨ w ∈ ws) ∧ W'.length + ws.length = W.length := by
    intro W ck hJ h0 hl
    obtain ⟨ws, W', g1, g2, g3, g4, g5, g6, g7⟩ := del_loop ⟨⟨ck, W, s.Done⟩⟩ ck (W.length + 1) W s.Done [] (by omega) hJ (by omega) (by simp; omega)
    refine ⟨ws, W', ?_, fun hd => ⟨h0, g2.c1, by show W'.length ≤ 200; omega, hd, g2.d, g2.w, g3⟩, g4, g5, g6, g7⟩
    rw [m_skeen_clock_deliver, g1]
    simp
  by_cases k1 : c.Kind = 1
  · rw [if_pos k1]
    rcases assign_eq s g c.Message hlw h.c0 hj (hc1 k1) with ⟨e2, ha⟩ | ⟨a1, a2, a3, a4, a5, ha⟩
    · have ha' : m_skeen_clock_assign ⟨s⟩ g c.Message = _ := ha
      rw [ha']
      simp only [Option.bind_some]
      by_cases he2 : e2 = 0
      · rw [if_neg (by omega)]
        simp only [Option.bind_some]
        obtain ⟨ws, W', d1, d2, d3, d4, d5, d6⟩ := fin s.Waits s.Clock hj h.c0 hlw
        rw [d1]
        simp only [Option.bind_some]
        by_cases hfull : ((s.Done ++ ws.map stW).length : Int) > 200
        · rw [if_pos hfull]; exact .inl ⟨9, by omega, rfl, by intro _ _ h; omega⟩
        · rw [if_neg hfull]
          exact .inr ⟨s.Waits, s.Clock, ws, W', .inl ⟨rfl, rfl⟩, rfl, d2 (by omega), Int.le_refl _, d3, d4, d5, d6, by intro h; omega⟩
      · rw [if_pos he2]
        exact .inl ⟨e2, he2, rfl, by intro _ _ h; omega⟩
    · have ha' : m_skeen_clock_assign ⟨s⟩ g c.Message = _ := ha
      rw [ha']
      simp only [Option.bind_some, not_true_eq_false, if_false]
      have hpl := plc_le c.Message.Id s.Waits
      obtain ⟨ws, W', d1, d2, d3, d4, d5, d6⟩ := fin _ _ (hj.ins c.Message (hc1 k1) h.c0 a2 a4 a5) (by have := h.c0; omega) (by simp; omega)
      rw [d1]
      simp only [Option.bind_some]
      by_cases hfull : ((s.Done ++ ws.map stW).length : Int) > 200
      · rw [if_pos hfull]; exact .inl ⟨9, by omega, rfl, by intro _ _ h; omega⟩
      · rw [if_neg hfull]
        exact .inr ⟨_, s.Clock + 1, ws, W', .inr (.inl ⟨k1, a1, rfl, rfl⟩), rfl, d2 (by omega), by omega, d3, d4, d5, d6, by intro h; omega⟩
  rw [if_neg k1]
  by_cases k2 : c.Kind = 2
  · rw [if_pos k2]
    obtain ⟨i1, i2, i3⟩ := hc2 k2
    rcases final_eq s c.Id c.Time (by omega) hj i1 with ⟨hf, hno⟩ | ⟨k, hk, b1, b2, b3, hf⟩
    · have hf' : m_skeen_clock_final ⟨s⟩ c.Id c.Time = _ := hf
      rw [hf']
      simp only [Option.bind_some]
      obtain ⟨ws, W', d1, d2, d3, d4, d5, d6⟩ := fin s.Waits s.Clock hj h.c0 hlw
      rw [d1]
      simp only [Option.bind_some]
      by_cases hfull : ((s.Done ++ ws.map stW).length : Int) > 200
      · rw [if_pos hfull]
        refine .inl ⟨9, by omega, rfl, fun _ _ _ => ?_⟩
        simp at hfull; omega
      · rw [if_neg hfull]
        refine .inr ⟨s.Waits, s.Clock, ws, W', .inl ⟨rfl, rfl⟩, rfl, d2 (by omega), Int.le_refl _, d3, d4, d5, d6, fun _ w hw hid hfn ht => ?_⟩
        rcases hno w hw hid with hh | hh
        · rw [hfn] at hh; cases hh
        · omega
    · have hf' : m_skeen_clock_final ⟨s⟩ c.Id c.Time = _ := hf
      rw [hf']
      simp only [Option.bind_some]
      obtain ⟨ws, W', d1, d2, d3, d4, d5, d6⟩ := fin _ _ (hj.set k hk b3 i3) (by have := h.c0; have := Int.le_max_left s.Clock c.Time; omega) (by simpa using hlw)
      rw [d1]
      simp only [Option.bind_some]
      by_cases hfull : ((s.Done ++ ws.map stW).length : Int) > 200
      · rw [if_pos hfull]
        refine .inl ⟨9, by omega, rfl, fun _ _ _ => ?_⟩
        simp at hfull d6; omega
      · rw [if_neg hfull]
        refine .inr ⟨_, max s.Clock c.Time, ws, W', .inr (.inr ⟨k2, rfl, k, hk, b1, b2, b3, rfl⟩), rfl, d2 (by omega), Int.le_max_left _ _, d3, d4, d5, d6, fun _ w hw hid hfn ht => ?_⟩
        have := at_id hj.w.2 hw (List.getElem_mem hk) (hid.trans b1.symm)
        exact ⟨k, hk, this.symm, by rw [this]⟩
  · rw [if_neg k2]
    simp only [Option.bind_some]
    obtain ⟨ws, W', d1, d2, d3, d4, d5, d6⟩ := fin s.Waits s.Clock hj h.c0 hlw
    rw [d1]
    simp only [Option.bind_some]
    by_cases hfull : ((s.Done ++ ws.map stW).length : Int) > 200
    · rw [if_pos hfull]; exact .inl ⟨9, by omega, rfl, by intro _ _ h; omega⟩
    · rw [if_neg hfull]
      exact .inr ⟨s.Waits, s.Clock, ws, W', .inl ⟨rfl, rfl⟩, rfl, d2 (by omega), Int.le_refl _, d3, d4, d5, d6, by intro h; omega⟩
end Go.Proofs
end
section
namespace Go.Proofs
open Go.Tm
set_option linter.unusedSimpArgs false
theorem wr_ok (x : Int) (h : -9000000000000000000 ≤ x ∧ x ≤ 9000000000000000000) : wr .i64 x = x := wr_eq _ _ (by show (-9223372036854775808 : Int) ≤ _; omega) (by show _ ≤ (9223372036854775807 : Int); omega)
end Go.Proofs
end
section
namespace Go.Proofs
open Go.Tm
set_option linter.unusedSimpArgs false
theorem sameInts_loop (b : List Int) : ∀ (l : List Int) (n : Nat), n + l.length = b.length → m_towncrierref01_SameInts_loop1 b l n = some (if l = b.drop n then .inr () else .inl false) := by
  intro l
  induction l with
  | nil => intro n h; simp [m_towncrierref01_SameInts_loop1]; simp at h; omega
  | cons y l ih =>
    intro n h
    simp only [List.length_cons] at h
    have hn : n < b.length := by omega
    have hg : b.getD n default = b[n] := by simp [List.getD, List.getElem?_eq_getElem hn]
    have hd := List.drop_eq_getElem_cons hn
    rw [m_towncrierref01_SameInts_loop1, if_pos hn, hg]
    generalize b[n] = z at hd
    rw [hd]
    by_cases hy : y = z
    · rw [if_neg (by simpa using hy), ih (n + 1) (by omega)]
      simp only [hy, List.cons.injEq, true_and]
    · rw [if_pos hy]
      simp only [hy, List.cons.injEq, false_and, if_false]
theorem sameInts_eq (a b : List Int) : m_towncrierref01_SameInts a b = some (decide (a = b)) := by
  rw [m_towncrierref01_SameInts]
  by_cases h : (a.length : Int) = (b.length : Int)
  · rw [if_neg (by simpa using h), sameInts_loop b a 0 (by omega), List.drop_zero]
    by_cases hab : a = b <;> simp [hab]
  · rw [if_pos h]
    have : a ≠ b := fun hh => h (by rw [hh])
    simp [this]
theorem sm12_eq (a b : TMessage) : m_towncrierref12_SameMessage a b = some (decide (a = b)) := by
  rw [m_towncrierref12_SameMessage, sameInts_eq]
  obtain ⟨a1, a2, a3, a4, a5⟩ := a
  obtain ⟨b1, b2, b3, b4, b5⟩ := b
  by_cases h : a1 = b1
  · by_cases h2 : a2 = b2 <;> by_cases h3 : a3 = b3 <;> by_cases h4 : a4 = b4 <;> by_cases h5 : a5 = b5 <;> simp [h, h2, h3, h4, h5]
  · simp [h]
theorem ss_loop (b : List TStamp) : ∀ (l : List TStamp) (n : Nat), n + l.length = b.length → m_towncrierref15_SameStamps_loop1 b l n = some (if l = b.drop n then .inr () else .inl false) := by
  intro l
  induction l with
  | nil => intro n h; simp [m_towncrierref15_SameStamps_loop1]; simp at h; omega
  | cons y l ih =>
    intro n h
    simp only [List.length_cons] at h
    have hn : n < b.length := by omega
    have hg : b.getD n default = b[n] := by simp [List.getD, List.getElem?_eq_getElem hn]
    have hd := List.drop_eq_getElem_cons hn
    rw [m_towncrierref15_SameStamps_loop1, if_pos hn, hg]
    generalize b[n] = z at hd
    rw [hd]
    have he : (y.Time = z.Time ∧ y.Id = z.Id) ↔ y = z := by
      obtain ⟨y1, y2⟩ := y; obtain ⟨z1, z2⟩ := z; simp
    by_cases hy : y = z
    · rw [if_neg (by rw [he]; simpa using hy), ih (n + 1) (by omega)]
      simp only [hy, List.cons.injEq, true_and]
    · rw [if_pos (by rw [he]; exact hy)]
      simp only [hy, List.cons.injEq, false_and, if_false]
theorem ss_eq (a b : List TStamp) : m_towncrierref15_SameStamps a b = some (decide (a = b)) := by
  rw [m_towncrierref15_SameStamps]
  by_cases h : (a.length : Int) = (b.length : Int)
  · rw [if_neg (by simpa using h), ss_loop b a 0 (by omega), List.drop_zero]
    by_cases hab : a = b <;> simp [hab]
  · rw [if_pos h]
    have : a ≠ b := fun hh => h (by rw [hh])
    simp [this]
end Go.Proofs
end
section
namespace Go.Proofs
open Go.Tm
set_option linter.unusedSimpArgs false
theorem nin_tot (n : Int) : ∃ b, m_num_in n = some b ∧ (b = true → 0 ≤ n ∧ n ≤ 1099511627776) := by
  rw [m_num_in]
  refine ⟨_, rfl, fun h => ?_⟩
  simp at h
  omega
structure GetOk (l : List Int) (r : Int × Int × Int) : Prop where
  s0 : 0 ≤ r.2.1
  s1 : r.2.1 ≤ l.length
  n0 : r.2.2 = 0 → 0 ≤ r.1 ∧ r.1 ≤ 1099511627776
theorem get_loop : ∀ (l : List Int) (k : Nat) (n : Int), (∃ u, m_num_Get_loop1 l k n = some (.inr u)) ∨ ∃ a b, m_num_Get_loop1 l k n = some (.inl (a, b, 0)) ∧ 0 ≤ b ∧ b ≤ k + l.length ∧ 0 ≤ a ∧ a ≤ 1099511627776 := by
  intro l
  induction l with
  | nil => intro k n; exact .inl ⟨(), rfl⟩
  | cons y l ih =>
    intro k n
    rw [m_num_Get_loop1]
    by_cases h5 : (k : Int) > 5
    · rw [if_pos h5]; exact .inl ⟨(), rfl⟩
    rw [if_neg h5, if_pos (by rw [wr_ok _ (by omega)]; omega)]
    by_cases h7 : y > 127
    · rw [if_pos h7]
      rcases ih (k + 1) _ with h | ⟨a, b, h, h1, h2, h3⟩
      · exact .inl h
      · exact .inr ⟨a, b, h, h1, by simp only [List.length_cons]; omega, h3⟩
    · rw [if_neg h7]
      by_cases h0 : y = 0 ∧ (k : Int) > 0
      · rw [if_neg (fun h => h h0)]
        simp only [Option.bind_some]
        rw [if_pos (.inl h0)]
        exact .inl ⟨(), rfl⟩
      · rw [if_pos h0]
        obtain ⟨b, hb, hb2⟩ := nin_tot (bitw .or .i64 n (shw true .i64 (wr .i64 (bitw .and .u8 y 127)) (wr .i64 (7 * (k : Int)))))
        rw [hb]
        simp only [Option.bind_some]
        by_cases hbt : b = true
        · rw [if_neg (by rintro (h | h); exact h0 h; exact h hbt), wr_ok ((k : Int) + 1) (by omega)]
          exact .inr ⟨_, _, rfl, by omega, by simp only [List.length_cons]; omega, hb2 hbt⟩
        · rw [if_pos (.inr hbt)]
          exact .inl ⟨(), rfl⟩
theorem get_tot (l : List Int) : ∃ r, m_num_Get l = some r ∧ GetOk l r := by
  rw [m_num_Get]
  rcases get_loop l 0 0 with ⟨u, h⟩ | ⟨a, b, h, h1, h2, h3⟩
  · rw [h]; exact ⟨_, rfl, by show (0 : Int) ≤ 0; omega, by show (0 : Int) ≤ _; omega, by intro h; cases h⟩
  · rw [h]; exact ⟨_, rfl, h1, by show b ≤ _; omega, fun _ => h3⟩
theorem gettext_tot (l : List Int) (hl : l.length ≤ 1000000) : ∃ r, m_num_GetText l = some r ∧ 0 ≤ r.2.1 ∧ r.2.1 ≤ l.length := by
  obtain ⟨v, hv, ho⟩ := get_tot l
  have h1 := ho.s0
  have h2 := ho.s1
  rw [m_num_GetText, hv]
  simp only [Option.bind_some]
  by_cases hc : (¬ v.2.2 = 0 ∨ v.1 > 4096) ∨ v.1 > wr .i64 ((l.length : Int) - v.2.1)
  · rw [if_pos hc]; exact ⟨_, rfl, by show (0 : Int) ≤ 0; omega, by show (0 : Int) ≤ _; omega⟩
  · rw [if_neg hc]
    rw [wr_ok _ (by omega)] at hc
    have h3 := ho.n0 (by omega)
    rw [wr_ok _ (by omega), if_pos (by omega)]
    exact ⟨_, rfl, by show (0 : Int) ≤ v.2.1 + v.1; omega, by show v.2.1 + v.1 ≤ _; omega⟩
theorem getints_loop (l : List Int) (hl : l.length ≤ 1000000) (v : Int × Int × Int) : ∀ (fu : Nat) (acc : List Int) (at' k : Int), (v.1 - k).toNat < fu → 0 ≤ at' → at' ≤ l.length → 0 ≤ k → v.1 ≤ 4096 → (acc.length : Int) ≤ k →
    (∃ e, m_num_GetInts_loop1 l v fu acc at' k = some (.inl ([], 0, e))) ∨ ∃ acc' at2, m_num_GetInts_loop1 l v fu acc at' k = some (.inr (acc', at2)) ∧ 0 ≤ at2 ∧ at2 ≤ l.length := by
  intro fu
  induction fu with
  | zero => intro acc at' k h; omega
  | succ fu ih =>
    intro acc at' k h h0 h1 hk hv ha
    rw [m_num_GetInts_loop1]
    by_cases hlt : k < v.1
    · obtain ⟨r, hr, ho⟩ := get_tot (l.drop at'.toNat)
      have q1 := ho.s0
      have q2 := ho.s1
      simp only [List.length_drop] at q2
      rw [if_pos hlt, if_pos ⟨h0, h1⟩, hr]
      simp only [Option.bind_some]
      by_cases he : ¬ r.2.2 = 0
      · rw [if_pos he]; exact .inl ⟨_, rfl⟩
      · rw [if_neg he, if_pos (by simp; omega), wr_ok (at' + r.2.1) (by omega), wr_ok (k + 1) (by omega)]
        exact ih _ _ _ (by omega) (by omega) (by omega) (by omega) hv (by simp; omega)
    · rw [if_neg hlt]; exact .inr ⟨_, _, rfl, h0, h1⟩
theorem getints_tot (l : List Int) (hl : l.length ≤ 1000000) (m : Int) : ∃ r, m_num_GetInts l m = some r ∧ 0 ≤ r.2.1 ∧ r.2.1 ≤ l.length := by
  rw [m_num_GetInts]
  by_cases hm : m < 0 ∨ m > 4096
  · rw [if_pos hm]; exact ⟨_, rfl, by show (0 : Int) ≤ 0; omega, by show (0 : Int) ≤ _; omega⟩
  rw [if_neg hm]
  obtain ⟨v, hv, ho⟩ := get_tot l
  rw [hv]
  simp only [Option.bind_some]
  by_cases hc : ¬ v.2.2 = 0 ∨ v.1 > m
  · rw [if_pos hc]; exact ⟨_, rfl, by show (0 : Int) ≤ 0; omega, by show (0 : Int) ≤ _; omega⟩
  rw [if_neg hc]
  rcases getints_loop l hl v (v.1.toNat + 1) [] v.2.1 0 (by omega) ho.s0 ho.s1 (by omega) (by omega) (by simp) with ⟨e, h⟩ | ⟨a, b, h, h1, h2⟩
  · rw [h]; exact ⟨_, rfl, by show (0 : Int) ≤ 0; omega, by show (0 : Int) ≤ _; omega⟩
  · rw [h]; exact ⟨_, rfl, h1, h2⟩
theorem take_tot (r : Tcommand_reader) (n e : Int) (h : 0 ≤ n) : ∃ r', m_command_reader_take r n e = some r' ∧ r'.fB.length ≤ r.fB.length := by
  rw [m_command_reader_take, if_pos (by omega)]
  exact ⟨_, rfl, by simp⟩
theorem number_tot (r : Tcommand_reader) : ∃ x, m_command_reader_number r = some x ∧ x.2.fB.length ≤ r.fB.length := by
  obtain ⟨v, hv, ho⟩ := get_tot r.fB
  obtain ⟨r', h1, h2⟩ := take_tot r v.2.1 v.2.2 ho.s0
  rw [m_command_reader_number, hv]
  simp only [Option.bind_some, h1]
  exact ⟨_, rfl, h2⟩
theorem text_tot (r : Tcommand_reader) (hl : r.fB.length ≤ 1000000) : ∃ x, m_command_reader_text r = some x ∧ x.2.fB.length ≤ r.fB.length := by
  obtain ⟨v, hv, h0, _⟩ := gettext_tot r.fB hl
  obtain ⟨r', h1, h2⟩ := take_tot r v.2.1 v.2.2 h0
  rw [m_command_reader_text, hv]
  simp only [Option.bind_some, h1]
  exact ⟨_, rfl, h2⟩
theorem ints_tot (r : Tcommand_reader) (hl : r.fB.length ≤ 1000000) (m : Int) : ∃ x, m_command_reader_ints r m = some x ∧ x.2.fB.length ≤ r.fB.length := by
  obtain ⟨v, hv, h0, _⟩ := getints_tot r.fB hl m
  obtain ⟨r', h1, h2⟩ := take_tot r v.2.1 v.2.2 h0
  rw [m_command_reader_ints, hv]
  simp only [Option.bind_some, h1]
  exact ⟨_, rfl, h2⟩
theorem command_tot (r : Tcommand_reader) (hl : r.fB.length ≤ 1000000) : ∃ x, m_command_reader_command r = some x := by
  obtain ⟨v1, h1, l1⟩ := number_tot r
  rw [m_command_reader_command, h1]
  simp only [Option.bind_some]
  by_cases k1 : wr .u8 (min v1.1 255) = 1
  · obtain ⟨v2, h2, l2⟩ := number_tot v1.2
    obtain ⟨v3, h3, l3⟩ := ints_tot v2.2 (by omega) 4
    obtain ⟨v4, h4, l4⟩ := number_tot v3.2
    obtain ⟨v5, h5, l5⟩ := text_tot v4.2 (by omega)
    obtain ⟨v6, h6, l6⟩ := text_tot v5.2 (by omega)
    simp only [k1, if_true, h2, h3, h4, h5, h6, Option.bind_some]
    exact ⟨_, rfl⟩
  by_cases k2 : wr .u8 (min v1.1 255) = 2
  · obtain ⟨v2, h2, l2⟩ := number_tot v1.2
    obtain ⟨v3, h3, l3⟩ := number_tot v2.2
    rw [if_neg k1, if_pos k2, h2]
    simp only [Option.bind_some, h3]
    exact ⟨_, rfl⟩
  by_cases k3 : wr .u8 (min v1.1 255) = 3
  · obtain ⟨v2, h2, l2⟩ := ints_tot v1.2 (by omega) 6
    rw [if_neg k1, if_neg k2, if_pos k3, h2]
    simp only [Option.bind_some]
    exact ⟨_, rfl⟩
  rw [if_neg k1, if_neg k2, if_neg k3]
  obtain ⟨b2, hb2⟩ : ∃ b2, (if (wr .u8 (min v1.1 255)) = 4 then some ((wr .u8 (min v1.1 255)) == 4) else if (wr .u8 (min v1.1 255)) = 5 then some ((wr .u8 (min v1.1 255)) == 5) else some ((wr .u8 (min v1.1 255)) == 6)) = some b2 := by
    split
    · exact ⟨_, rfl⟩
    · split <;> exact ⟨_, rfl⟩
  rw [hb2]
  simp only [Option.bind_some]
  by_cases hb : b2 = true
  · rw [if_pos hb]
    obtain ⟨v2, h2, l2⟩ := number_tot v1.2
    obtain ⟨v3, h3, l3⟩ := number_tot v2.2
    simp only [h2, h3, Option.bind_some]
    by_cases k4 : wr .u8 (min v1.1 255) = 4
    · obtain ⟨v4, h4, l4⟩ := number_tot v3.2
      obtain ⟨v5, h5, l5⟩ := number_tot ⟨v4.2.fB, v4.2.fOk⟩
      rw [if_pos k4, h4]
      simp only [Option.bind_some, h5]
      exact ⟨_, rfl⟩
    · obtain ⟨v5, h5, l5⟩ := number_tot ⟨v3.2.fB, v3.2.fOk⟩
      rw [if_neg k4]
      simp only [Option.bind_some, h5]
      exact ⟨_, rfl⟩
  · rw [if_neg hb]
    exact ⟨_, rfl⟩
theorem read_tot (s : List UInt8) : ∃ r, m_command_Read s = some r := by
  rw [m_command_Read]
  by_cases h : (s.length : Int) > 1024
  · rw [if_pos h]; exact ⟨_, rfl⟩
  rw [if_neg h]
  obtain ⟨x, hx⟩ := command_tot ⟨ofBytes s, true⟩ (by simp [ofBytes]; omega)
  rw [hx]
  simp only [Option.bind_some]
  by_cases hc : (¬ (x.2.fOk = true)) ∨ ((x.2.fB.length : Int) > 0)
  · rw [if_neg (fun h => h hc)]
    simp only [Option.bind_some]
    rw [if_pos (.inl hc)]
    exact ⟨_, rfl⟩
  · rw [if_pos hc]
    obtain ⟨e, he, _⟩ := cmd_tot x.1
    rw [he]
    simp only [Option.bind_some]
    split <;> exact ⟨_, rfl⟩
def cmdsS : List (List UInt8) → Option (List TCommand)
  | [] => some []
  | s :: l => match m_command_Read s with
    | some (c, e) => if e = 0 then (cmdsS l).map (c :: ·) else none
    | none => none
theorem cmds_len : ∀ (l : List (List UInt8)) (cs : List TCommand), cmdsS l = some cs → cs.length = l.length := by
  intro l
  induction l with
  | nil => intro cs h; simp [cmdsS] at h; simp [← h]
  | cons s l ih =>
    intro cs h
    obtain ⟨⟨c, e⟩, hr⟩ := read_tot s
    simp only [cmdsS, hr] at h
    split at h
    · obtain ⟨ds, hd, rfl⟩ := Option.map_eq_some_iff.1 h
      simp [ih ds hd]
    · cases h
theorem cmds_take (k : Nat) : ∀ (l : List (List UInt8)) (cs : List TCommand), cmdsS l = some cs → cmdsS (l.take k) = some (cs.take k) := by
  intro l
  induction l generalizing k with
  | nil => intro cs h; simp [cmdsS] at h; subst h; simp [cmdsS]
  | cons s l ih =>
    intro cs h
    obtain ⟨⟨c, e⟩, hr⟩ := read_tot s
    simp only [cmdsS, hr] at h
    split at h
    · rename_i he
      obtain ⟨ds, hd, rfl⟩ := Option.map_eq_some_iff.1 h
      cases k with
      | zero => simp [cmdsS]
      | succ k => simp only [List.take_succ_cons, cmdsS, hr, if_pos he, ih k ds hd]; rfl
    · cases h
theorem cmds_loop : ∀ (l : List (List UInt8)) (acc : List TCommand), acc.length + l.length < 1000000 → m_log_Commands_loop1 l acc = some (match cmdsS l with | some cs => .inr (acc ++ cs) | none => .inl ([], 8)) := by
  intro l
  induction l with
  | nil => intro acc _; simp [m_log_Commands_loop1_n, cmdsS]
  | cons s l ih =>
    intro acc h
    simp only [List.length_cons] at h
    obtain ⟨⟨c, e⟩, hr⟩ := read_tot s
    rw [m_log_Commands_loop1_c, hr]
    simp only [Option.bind_some, cmdsS, hr]
    by_cases he : e = 0
    · rw [if_neg (by simpa using he), if_pos (by simp; omega), ih _ (by simp; omega), if_pos he]
      cases cmdsS l <;> simp
    · rw [if_pos he, if_neg he]
theorem cmds_eq (l : List (List UInt8)) : m_log_Commands l = some (if (l.length : Int) > 200 then (([], 4) : List TCommand × Int) else match cmdsS l with | some cs => (cs, 0) | none => ([], 8)) := by
  rw [m_log_Commands]
  by_cases h : (l.length : Int) > 200
  · rw [if_pos h, if_pos h]
  · rw [if_neg h, if_neg h, cmds_loop l [] (by simp; omega)]
    cases cmdsS l <;> rfl
def stp (g : Int) (s : TSkeen) (c : TCommand) : TSkeen × List TMessage := match m_skeen_Apply s g c with
  | some r => if r.2.2 = 0 then (r.1, r.2.1) else (s, [])
  | none => (s, [])
theorem stp_ok {g : Int} {s : TSkeen} {c : TCommand} (h : V s) : ∃ r, m_skeen_Apply s g c = some r ∧ V (stp g s c).1 ∧ s.Clock ≤ (stp g s c).1.Clock ∧ (∃ d : List TStamp, (stp g s c).1.Done = s.Done ++ d ∧ d.length = (stp g s c).2.length) ∧
    ((¬ r.2.2 = 0 ∧ stp g s c = (s, [])) ∨ (r.2.2 = 0 ∧ stp g s c = (r.1, r.2.1))) := by
  rcases apply_ok s g c h with ⟨e, he, ha, _⟩ | ⟨W, ck, ws, W', _, ha, hV, hck, _⟩
  · have : stp g s c = (s, []) := by simp only [stp, ha, if_neg he]
    rw [this]
    exact ⟨_, ha, h, Int.le_refl _, ⟨[], by simp, rfl⟩, .inl ⟨he, rfl⟩⟩
  · have : stp g s c = (⟨ck, W', s.Done ++ ws.map stW⟩, ws.map TWait.Message) := by simp only [stp, ha, if_true]
    rw [this]
    exact ⟨_, ha, hV, hck, ⟨ws.map stW, rfl, by simp⟩, .inr ⟨rfl, rfl⟩⟩
def fin (g : Int) : TSkeen → List TCommand → TSkeen
  | s, [] => s
  | s, c :: l => fin g (stp g s c).1 l
def outs (g : Int) : TSkeen → List TCommand → List TMessage
  | _, [] => []
  | s, c :: l => (stp g s c).2 ++ outs g (stp g s c).1 l
def tms (g : Int) : TSkeen → List TCommand → List Torder_given
  | _, [] => []
  | s, c :: l => (if ((stp g s c).1.Waits.length : Int) > (s.Waits.length : Int) then [⟨(stp g s c).1.Clock, c.Message⟩] else []) ++ tms g (stp g s c).1 l
theorem fin_v (g : Int) : ∀ (l : List TCommand) (s : TSkeen), V s → V (fin g s l) ∧ s.Clock ≤ (fin g s l).Clock ∧ ∃ d : List TStamp, (fin g s l).Done = s.Done ++ d ∧ d.length = (outs g s l).length := by
  intro l
  induction l with
  | nil => intro s h; exact ⟨h, Int.le_refl _, [], by simp [fin], rfl⟩
  | cons c l ih =>
    intro s h
    obtain ⟨r, _, h1, h2, ⟨d, h3, h4⟩, _⟩ := stp_ok (g := g) (c := c) h
    obtain ⟨k1, k2, e, k3, k4⟩ := ih _ h1
    exact ⟨k1, Int.le_trans h2 k2, d ++ e, by rw [fin, k3, h3, List.append_assoc], by simp [outs, h4, k4]⟩
theorem fin_app (g : Int) : ∀ (l m : List TCommand) (s : TSkeen), fin g s (l ++ m) = fin g (fin g s l) m := by
  intro l
  induction l with
  | nil => intro m s; rfl
  | cons c l ih => intro m s; simp only [List.cons_append, fin, ih]
theorem outs_app (g : Int) : ∀ (l m : List TCommand) (s : TSkeen), outs g s (l ++ m) = outs g s l ++ outs g (fin g s l) m := by
  intro l
  induction l with
  | nil => intro m s; rfl
  | cons c l ih => intro m s; simp only [List.cons_append, outs, fin, ih, List.append_assoc]
theorem tms_app (g : Int) : ∀ (l m : List TCommand) (s : TSkeen), tms g s (l ++ m) = tms g s l ++ tms g (fin g s l) m := by
  intro l
  induction l with
  | nil => intro m s; rfl
  | cons c l ih => intro m s; simp only [List.cons_append, tms, fin, ih, List.append_assoc]
theorem tms_len (g : Int) : ∀ (l : List TCommand) (s : TSkeen), (tms g s l).length ≤ l.length := by
  intro l
  induction l with
  | nil => intro s; simp [tms]
  | cons c l ih =>
    intro s
    have := ih (stp g s c).1
    rw [tms]
    split <;> simp <;> omega
theorem playP_loop (g : Int) : ∀ (l : List TCommand) (s : TSkeen) (out : List TMessage), V s → out.length = s.Done.length → m_order_play_Play_loop1 g l out s.Clock s.Waits s.Done = some (out ++ outs g s l, (fin g s l).Clock, (fin g s l).Waits, (fin g s l).Done) := by
  intro l
  induction l with
  | nil => intro s out _ _; simp [m_order_play_Play_loop1, outs, fin]
  | cons c l ih =>
    intro s out h ho
    obtain ⟨r, hr, h1, h2, ⟨d, h3, h4⟩, h5⟩ := stp_ok (g := g) (c := c) h
    have hld := h1.ld
    have hlo : out.length + (stp g s c).2.length = (stp g s c).1.Done.length := by rw [h3, ho]; simp [h4]
    rw [m_order_play_Play_loop1]
    have hr' : m_skeen_Apply ⟨s.Clock, s.Waits, s.Done⟩ g c = some r := hr
    rw [hr']
    simp only [Option.bind_some, fin, outs]
    rcases h5 with ⟨he, hs⟩ | ⟨he, hs⟩
    · rw [hs] at h1 hlo ⊢
      rw [if_pos he]
      simp only [Option.bind_some, m_order_Play_1]
      have hlo2 : out.length ≤ 200 := by have := h.ld; omega
      rw [if_pos (by simp; omega)]
      simp only [Option.bind_some]
      have := ih s (out ++ []) h1 (by simpa using hlo)
      simpa using this
    · rw [hs] at h1 hlo ⊢
      rw [if_neg (by simpa using he)]
      simp only [Option.bind_some, m_order_Play_1]
      have hl3 : out.length + r.2.1.length = r.1.Done.length := hlo
      have hl4 := h1.ld
      have hl4 : r.1.Done.length ≤ 200 := hl4
      rw [if_pos (by omega)]
      simp only [Option.bind_some]
      have := ih r.1 (out ++ r.2.1) h1 (by simpa using hlo)
      simpa [List.append_assoc] using this
theorem playT_loop (g : Int) : ∀ (l : List TCommand) (s : TSkeen) (out : List Torder_given), V s → out.length + l.length < 1000000 → m_order_play_times_loop1 g l out s.Clock s.Waits s.Done = some (out ++ tms g s l, (fin g s l).Clock, (fin g s l).Waits, (fin g s l).Done) := by
  intro l
  induction l with
  | nil => intro s out _ _; simp [m_order_play_times_loop1, tms, fin]
  | cons c l ih =>
    intro s out h ho
    simp only [List.length_cons] at ho
    obtain ⟨r, hr, h1, h2, _, h5⟩ := stp_ok (g := g) (c := c) h
    rw [m_order_play_times_loop1]
    have hr' : m_skeen_Apply ⟨s.Clock, s.Waits, s.Done⟩ g c = some r := hr
    rw [hr']
    simp only [Option.bind_some, fin, tms]
    rcases h5 with ⟨he, hs⟩ | ⟨he, hs⟩
    · rw [hs] at h1 ⊢
      rw [if_pos he]
      simp only [Option.bind_some, m_order_times_1]
      rw [if_neg (by omega), if_neg (by omega)]
      simp only [Option.bind_some]
      have := ih s out h1 (by omega)
      simpa using this
    · rw [hs] at h1 ⊢
      rw [if_neg (by simpa using he)]
      simp only [Option.bind_some, m_order_times_1]
      by_cases hw : (r.1.Waits.length : Int) > (s.Waits.length : Int)
      · rw [if_pos hw, if_pos hw, if_pos (by simp; omega)]
        simp only [Option.bind_some]
        have := ih r.1 (out ++ [⟨r.1.Clock, c.Message⟩]) h1 (by simp; omega)
        simpa [List.append_assoc] using this
      · rw [if_neg hw, if_neg hw]
        simp only [Option.bind_some]
        have := ih r.1 out h1 (by omega)
        simpa using this
theorem V_zero : V ⟨0, [], []⟩ := ⟨by decide, by decide, by decide, by decide, ⟨by simp, by simp, by simp⟩, ⟨by simp, by simp [IdsUp]⟩, by simp⟩
def askS (g : Int) (l : List (List UInt8)) : Int := if g < 0 ∨ g ≥ 4 then 2 else if (l.length : Int) > 200 then 4 else if cmdsS l = none then 8 else 0
theorem twin_v {s : TSkeen} (h : V s) : m_skeen_Twin s = some s := twin_sk s (by have := h.lw; omega) (by have := h.ld; omega) (fun w hw => by have := (h.w.1 w hw).1.groups; omega)
theorem play_eq (g : Int) (l : List (List UInt8)) : (∃ e, e ≠ 0 ∧ askS g l = e ∧ m_order_Play g l = some (zSk, [], e)) ∨
    ∃ cs, askS g l = 0 ∧ cmdsS l = some cs ∧ l.length ≤ 200 ∧ m_order_Play g l = some (fin g zSk cs, outs g zSk cs, 0) := by
  rw [m_order_Play, m_order_play_Play]
  unfold askS
  by_cases hg : g < 0 ∨ g ≥ 4
  · rw [if_pos hg, if_pos hg]; exact .inl ⟨2, by omega, rfl, rfl⟩
  rw [if_neg hg, if_neg hg, cmds_eq]
  by_cases hl : (l.length : Int) > 200
  · rw [if_pos hl, if_pos hl]; exact .inl ⟨4, by omega, rfl, rfl⟩
  rw [if_neg hl, if_neg hl]
  cases hc : cmdsS l with
  | none => exact .inl ⟨8, by omega, rfl, rfl⟩
  | some cs =>
    right
    refine ⟨cs, by simp, rfl, by omega, ?_⟩
    simp only [Option.bind_some, not_true_eq_false, if_false]
    have h1 := playP_loop g cs zSk [] V_zero rfl
    have h1 : m_order_play_Play_loop1 g cs [] 0 [] [] = _ := h1
    have h2 := twin_v (fin_v g cs zSk V_zero).1
    rw [m_skeen_New]
    simp only [Option.bind_some, h1]
    have h2 : m_skeen_Twin ⟨(fin g zSk cs).Clock, (fin g zSk cs).Waits, (fin g zSk cs).Done⟩ = _ := h2
    rw [h2]
    simp
theorem local_loop : ∀ (l : List Torder_given) (acc : List TStamp), acc.length + l.length < 1000000 → m_order_Local_loop1 l acc = some (acc ++ l.map fun x => (⟨x.fTime, x.fM.Id⟩ : TStamp)) := by
  intro l
  induction l with
  | nil => intro acc _; simp [m_order_Local_loop1_n]
  | cons y l ih =>
    intro acc h
    simp only [List.length_cons] at h
    rw [m_order_Local_loop1_c, if_pos (by simp; omega), ih _ (by simp; omega)]
    simp
theorem local_eq (g : Int) (l : List (List UInt8)) : (∃ e, e ≠ 0 ∧ askS g l = e ∧ m_order_Local g l = some ([], e)) ∨
    ∃ cs, askS g l = 0 ∧ cmdsS l = some cs ∧ l.length ≤ 200 ∧ m_order_Local g l = some ((tms g zSk cs).map fun x => (⟨x.fTime, x.fM.Id⟩ : TStamp), 0) := by
  rw [m_order_Local, m_order_times, m_order_play_times]
  unfold askS
  by_cases hg : g < 0 ∨ g ≥ 4
  · rw [if_pos hg, if_pos hg]; exact .inl ⟨2, by omega, rfl, rfl⟩
  rw [if_neg hg, if_neg hg, cmds_eq]
  by_cases hl : (l.length : Int) > 200
  · rw [if_pos hl, if_pos hl]; exact .inl ⟨4, by omega, rfl, rfl⟩
  rw [if_neg hl, if_neg hl]
  cases hc : cmdsS l with
  | none => exact .inl ⟨8, by omega, rfl, rfl⟩
  | some cs =>
    right
    have hcl := cmds_len l cs hc
    refine ⟨cs, by simp, rfl, by omega, ?_⟩
    simp only [Option.bind_some, not_true_eq_false, if_false]
    have h1 := playT_loop g cs zSk [] V_zero (by simp; omega)
    have h1 : m_order_play_times_loop1 g cs [] 0 [] [] = _ := h1
    have h2 := twin_v (fin_v g cs zSk V_zero).1
    rw [m_skeen_New]
    simp only [Option.bind_some, h1]
    have h2 : m_skeen_Twin ⟨(fin g zSk cs).Clock, (fin g zSk cs).Waits, (fin g zSk cs).Done⟩ = _ := h2
    rw [h2]
    have h3 := tms_len g cs zSk
    simp only [Option.bind_some, List.nil_append, local_loop (tms g zSk cs) [] (by simp; omega)]
theorem sms_loop (b : List TMessage) : ∀ (l : List TMessage) (n : Nat), n + l.length = b.length → m_towncrierref15_SameMessages_loop1 b l n = some (if l = b.drop n then .inr () else .inl false) := by
  intro l
  induction l with
  | nil => intro n h; simp [m_towncrierref15_SameMessages_loop1]; simp at h; omega
  | cons y l ih =>
    intro n h
    simp only [List.length_cons] at h
    have hn : n < b.length := by omega
    have hg : b.getD n default = b[n] := by simp [List.getD, List.getElem?_eq_getElem hn]
    have hd := List.drop_eq_getElem_cons hn
    rw [m_towncrierref15_SameMessages_loop1, if_pos hn, hg, sm12_eq]
    generalize b[n] = z at hd
    rw [hd]
    simp only [Option.bind_some, decide_eq_true_eq]
    by_cases hy : y = z
    · rw [if_neg (by simpa using hy), ih (n + 1) (by omega)]
      simp only [hy, List.cons.injEq, true_and]
    · rw [if_pos hy]
      simp only [hy, List.cons.injEq, false_and, if_false]
theorem sms_eq (a b : List TMessage) : m_towncrierref15_SameMessages a b = some (decide (a = b)) := by
  rw [m_towncrierref15_SameMessages]
  by_cases h : (a.length : Int) = (b.length : Int)
  · rw [if_neg (by simpa using h), sms_loop b a 0 (by omega), List.drop_zero]
    by_cases hab : a = b <;> simp [hab]
  · rw [if_pos h]
    have : a ≠ b := fun hh => h (by rw [hh])
    simp [this]
theorem great2_loop (l : List (List UInt8)) : ∀ (fu k : Nat) (n : Int), 1000 - k < fu → k ≤ 1000 → ∃ r, m_towncrierref16_Great_loop2 [l] 0 fu n (k : Int) = some r := by
  intro fu
  induction fu with
  | zero => intro k n h; omega
  | succ fu ih =>
    intro k n h hk
    rw [m_towncrierref16_Great_loop2, if_pos (by simp)]
    by_cases hc : (k : Int) < ((([l] : List (List (List UInt8))).getD (0 : Int).toNat default).length : Int) ∧ (k : Int) < 1000
    · rw [if_pos hc, if_pos (by simp), if_pos (by omega), wr_ok ((k : Int) + 1) (by omega)]
      exact ih (k + 1) _ (by omega) (by omega)
    · rw [if_neg hc]; exact ⟨n, rfl⟩
theorem great1 (l : List (List UInt8)) : ∃ b, m_towncrierref16_Great [l] = some b := by
  obtain ⟨r, hr⟩ := great2_loop l 1002 0 0 (by omega) (by omega)
  rw [show ((0 : Nat) : Int) = 0 from rfl] at hr
  rw [m_towncrierref16_Great, m_towncrierref16_Great_loop1, if_pos (by simp), hr]
  simp only [Option.bind_some]
  rw [wr_ok _ (by omega), m_towncrierref16_Great_loop1, if_neg (by simp)]
  exact ⟨_, rfl⟩
theorem begins_law (g : Int) (l : List (List UInt8)) (k : Int) : m_towncrierlaw16_OrderBegins g l k = some true := by
  obtain ⟨b, hb⟩ := great1 l
  rw [m_towncrierlaw16_OrderBegins, hb]
  simp only [Option.bind_some]
  by_cases h0 : (b = true ∨ k < 0) ∨ k > (l.length : Int)
  · rw [if_pos h0]
  rw [if_neg h0]
  have hk : 0 ≤ k ∧ k ≤ (l.length : Int) := by omega
  have hlt : (l.take k.toNat).length ≤ l.length := by simp; omega
  simp only [if_pos hk]
  rcases play_eq g l with ⟨e, he, ha, hp⟩ | ⟨cs, ha, hc, hl, hp⟩
  · -- all of it is refused
    rcases local_eq g l with ⟨e2, _, ha2, hq⟩ | ⟨cs, ha2, _⟩
    case inr => rw [ha] at ha2; exact absurd ha2 he
    have ee : e2 = e := ha2.symm.trans ha
    subst ee
    obtain ⟨x, hx⟩ : ∃ x, m_order_Play g (l.take k.toNat) = some x := by rcases play_eq g (l.take k.toNat) with ⟨_, _, _, h⟩ | ⟨_, _, _, _, h⟩ <;> exact ⟨_, h⟩
    obtain ⟨y, hy⟩ : ∃ y, m_order_Local g (l.take k.toNat) = some y := by rcases local_eq g (l.take k.toNat) with ⟨_, _, _, h⟩ | ⟨_, _, _, _, h⟩ <;> exact ⟨_, h⟩
    simp only [hp, hq, hx, hy, Option.bind_some, he, not_false_eq_true, true_or, if_true]
    simp [he]
  · have hct := cmds_take k.toNat l cs hc
    have hat : askS g (l.take k.toNat) = 0 := by
      unfold askS at ha ⊢
      split at ha
      · omega
      · rename_i hg
        rw [if_neg hg, if_neg (by omega), hct]
        simp
    rcases play_eq g (l.take k.toNat) with ⟨e, he, ha', _⟩ | ⟨cs', _, hc', _, hp'⟩
    · rw [hat] at ha'; exact absurd ha'.symm he
    rw [hct] at hc'; cases hc'
    rcases local_eq g l with ⟨e, he, ha', _⟩ | ⟨cs', _, hc', _, hq⟩
    · rw [ha] at ha'; exact absurd ha'.symm he
    rw [hc] at hc'; cases hc'
    rcases local_eq g (l.take k.toNat) with ⟨e, he, ha', _⟩ | ⟨cs', _, hc', _, hq'⟩
    · rw [hat] at ha'; exact absurd ha'.symm he
    rw [hct] at hc'; cases hc'
    have hsp : cs = cs.take k.toNat ++ cs.drop k.toNat := (List.take_append_drop _ _).symm
    have ho : outs g zSk cs = outs g zSk (cs.take k.toNat) ++ outs g (fin g zSk (cs.take k.toNat)) (cs.drop k.toNat) := by rw [← outs_app, ← hsp]
    have ht : tms g zSk cs = tms g zSk (cs.take k.toNat) ++ tms g (fin g zSk (cs.take k.toNat)) (cs.drop k.toNat) := by rw [← tms_app, ← hsp]
    have hf : fin g zSk cs = fin g (fin g zSk (cs.take k.toNat)) (cs.drop k.toNat) := by rw [← fin_app, ← hsp]
    obtain ⟨v1, _⟩ := fin_v g (cs.take k.toNat) zSk V_zero
    obtain ⟨_, v2, d, v3, _⟩ := fin_v g (cs.drop k.toNat) _ v1
    rw [← hf] at v2 v3
    have l1 : ((outs g zSk (cs.take k.toNat)).length : Int) ≤ ((outs g zSk cs).length : Int) := by rw [ho]; simp; omega
    have l2 : ((fin g zSk (cs.take k.toNat)).Done.length : Int) ≤ ((fin g zSk cs).Done.length : Int) := by rw [v3]; simp; omega
    have l3 : (((tms g zSk (cs.take k.toNat)).map fun x => (⟨x.fTime, x.fM.Id⟩ : TStamp)).length : Int) ≤ (((tms g zSk cs).map fun x => (⟨x.fTime, x.fM.Id⟩ : TStamp)).length : Int) := by rw [ht]; simp; omega
    have t1 : (outs g zSk cs).take (outs g zSk (cs.take k.toNat)).length = outs g zSk (cs.take k.toNat) := by rw [ho]; simp
    have t2 : (fin g zSk cs).Done.take (fin g zSk (cs.take k.toNat)).Done.length = (fin g zSk (cs.take k.toNat)).Done := by rw [v3]; simp
    have t3 : ((tms g zSk cs).map fun x => (⟨x.fTime, x.fM.Id⟩ : TStamp)).take ((tms g zSk (cs.take k.toNat)).map fun x => (⟨x.fTime, x.fM.Id⟩ : TStamp)).length = (tms g zSk (cs.take k.toNat)).map fun x => (⟨x.fTime, x.fM.Id⟩ : TStamp) := by rw [ht, List.map_append]; simp
    simp only [hp, hp', hq, hq', Option.bind_some, not_true_eq_false, or_self, if_false, true_and, and_self, l1, l2, l3, v2, Int.toNat_natCast, t1, t2, t3, sms_eq, ss_eq, decide_true, if_true]
    rw [if_pos (by intro _; simp), if_pos (by intro _; simp), if_pos (by intro _; simp)]
    rfl
end Go.Proofs
end
section
namespace Go.Tm
open Go.RowKit Go.WideShapes Go.ChangeShapes
def aggT (P : Program) (t : TypeId) : Bool := match P.underlying t with
  | some (.struct _) => true
  | _ => false
def mkD (P : Program) (t : TypeId) (l : List D) : D := bif aggT P t then .agg l else l.headD .undef
def fieldsIn (P : Program) (chk : TypeId → Bool) : Nat → List Field → Nat → Bool
  | off, [], tot => Nat.beq off tot
  | off, f :: fs, tot => Nat.beq f.offset off && chk f.type && fieldsIn P chk (off + P.cellsOf f.type) fs tot
def dataT (P : Program) : Nat → TypeId → Bool
  | 0, _ => false
  | n + 1, t => match P.underlying t with
    | some .bool => true
    | some (.int _) => true
    | some .string => true
    | some (.slice e) => dataT P n e && Nat.blt 0 (P.cellsOf e) && (aggT P e || Nat.beq (P.cellsOf e) 1)
    | some (.struct fs) => fieldsIn P (dataT P n) 0 fs.toList (P.cellsOf t)
    | _ => false
def typedL (p : TypeId → List D → Prop) : List TypeId → List D → Prop
  | [], l => l = []
  | t :: ts, l => ∃ l1 l2, l = l1 ++ l2 ∧ p t l1 ∧ typedL p ts l2
def typed (P : Program) : Nat → TypeId → List D → Prop
  | 0, _, _ => False
  | n + 1, t, l => match P.underlying t with
    | some .bool => ∃ b, l = [.bool b]
    | some (.int k) => ∃ m, l = [.int k m]
    | some .string => ∃ s, l = [.str s]
    | some (.slice e) => ∃ xs : List (List D), l = [.imm (P.cellsOf e) (xs.map (mkD P e)) 4] ∧ ∀ x ∈ xs, typed P n e x
    | some (.struct fs) => typedL (typed P n) (fs.toList.map (·.type)) l
    | _ => False
theorem reps_append' {C : Cx} : ∀ {l1 l2 : List D} {v1 v2 : List Value}, reps C l1 v1 → reps C l2 v2 → reps C (l1 ++ l2) (v1 ++ v2)
  | [], l2, v1, v2, h1, h2 => by simp only [reps] at h1; subst h1; simpa using h2
  | d :: ds, l2, v1, v2, h1, h2 => by
    simp only [reps] at h1
    obtain ⟨v, vs, rfl, hd, h1⟩ := h1
    simp only [List.cons_append, reps]
    exact ⟨v, vs ++ v2, rfl, hd, reps_append' h1 h2⟩
theorem elems_of {C : Cx} {b s : Nat} {p : List D → Prop} {f : List D → D} : ∀ (n o : Nat), (∀ i, i < n → ∃ l v, p l ∧ rep C (f l) v ∧ v.cells.size = s ∧ v.cells.toList.all (·.oneCell') = true ∧ C.w.rangeAt b (o + i * s) v.cells.toList) →
    ∃ xs : List (List D), xs.length = n ∧ elems C (xs.map f) b o s ∧ ∀ x ∈ xs, p x
  | 0, o, _ => ⟨[], rfl, by simp only [List.map_nil, elems], by simp⟩
  | n + 1, o, h => by
    obtain ⟨l, v, h1, h2, h3, h4, h5⟩ := h 0 (by omega)
    obtain ⟨xs, g1, g2, g3⟩ := elems_of n (o + s) (fun i hi => by
      obtain ⟨l, v, h1, h2, h3, h4, h5⟩ := h (i + 1) (by omega)
      exact ⟨l, v, h1, h2, h3, h4, by rwa [show o + (i + 1) * s = o + s + i * s by rw [Nat.add_mul]; omega] at h5⟩)
    refine ⟨l :: xs, by simp [g1], ?_, by simpa using ⟨h1, g3⟩⟩
    simp only [List.map_cons, elems]
    exact ⟨⟨v, h2, h3, h4, by simpa using h5⟩, g2⟩
theorem fieldsIn_le {P : Program} {chk : TypeId → Bool} : ∀ (fs : List Field) (off tot : Nat), fieldsIn P chk off fs tot = true → off ≤ tot
  | [], off, tot, h => Nat.le_of_eq (Nat.eq_of_beq_eq_true h)
  | f :: fs, off, tot, h => by
    simp only [fieldsIn, Bool.and_eq_true] at h
    have := fieldsIn_le fs _ _ h.2
    omega
section
variable {H : Type} {enc : TypeId × Value → H} {P : Program} {w : World} {sp : Nat → Bool}
theorem trod_reps : ∀ (n fuel : Nat) (t : TypeId) (cs : List Value) (x : DataW H × List MemPlace) (C : Cx), C.w = w → (∀ b, ¬ C.M b) → (∀ b, C.Z b) → dataT P n t = true → DataW.trod enc P w 0 sp true fuel t cs = some x →
    ∃ l, reps C l cs ∧ typed P n t l ∧ cs.all (·.oneCell') = true
  | 0, _, _, _, _, _, _, _, _, h, _ => by simp [dataT] at h
  | n + 1, fuel, t, cs, x, C, hw, hM, hlo, hd, h => by
    unfold dataT at hd
    split at hd
    · rename_i ht
      simp only [typed, ht]
      obtain ⟨b, rfl, _⟩ := DataW.trod_bool ht h
      exact ⟨[.bool b], by simp only [reps, rep]; exact ⟨_, _, rfl, rfl, rfl⟩, ⟨b, rfl⟩, rfl⟩
    · rename_i k ht
      simp only [typed, ht]
      obtain ⟨m, rfl, _, hwf⟩ := DataW.trod_int ht h
      simp only [Lit.wf, Bool.and_eq_true, decide_eq_true_eq] at hwf
      exact ⟨[.int k m], by simp only [reps, rep]; exact ⟨_, _, rfl, ⟨rfl, hwf⟩, rfl⟩, ⟨m, rfl⟩, rfl⟩
    · rename_i ht
      simp only [typed, ht]
      obtain ⟨s, rfl, _, hs⟩ := DataW.trod_string ht h
      refine ⟨[.str s.data.toList], ?_, ⟨_, rfl⟩, rfl⟩
      simp only [reps, rep]
      refine ⟨_, _, rfl, ⟨by rw [Array.toArray_toList], ?_⟩, rfl⟩
      have h1 : s.data.toList.length = s.size := by rw [Array.length_toList]; rfl
      have h2 : s.size ≤ 9223372036854775807 := hs
      rw [h1]; omega
    · rename_i e ht
      simp only [typed, ht]
      simp only [Bool.and_eq_true, Bool.or_eq_true] at hd
      obtain ⟨⟨hde, hpos⟩, hone⟩ := hd
      have hpos : 0 < P.cellsOf e := Nat.le_of_ble_eq_true hpos
      rcases DataW.trod_slice ht h with ⟨rfl, _⟩ | ⟨a, len, cap, els, rest, m, _, rfl, _, hb, hl, hc, hlen, hel, _⟩
      · refine ⟨[.imm (P.cellsOf e) (([] : List (List D)).map (mkD P e)) 4], ?_, ⟨[], rfl, fun _ h => by cases h⟩, rfl⟩
        simp only [reps, rep, List.map_nil, List.length_nil]
        exact ⟨_, _, rfl, ⟨none, 0, rfl, by simp, by simp, by simp, by simp, by simp, by simp, by simp, .inl trivial⟩, rfl⟩
      · have hc : cap ≤ 9223372036854775807 := hc
        have key : ∀ i, i < len → ∃ l v, typed P n e l ∧ rep (C.at C.Z) (mkD P e l) v ∧ v.cells.size = P.cellsOf e ∧ v.cells.toList.all (·.oneCell') = true ∧ (i = 0 → a.spot = none) ∧ a.block < w.heap.size ∧ w.rangeAt a.block (a.off + i * P.cellsOf e) v.cells.toList := by
          intro i hi
          have hi' := hel i hi
          have hsome : els[i]? = some els[i] := List.getElem?_eq_getElem (by omega)
          rw [hsome, Option.bind_eq_some_iff] at hi'
          obtain ⟨cs', hcs, htr⟩ := hi'
          obtain ⟨_, hclen, hcell⟩ := World.cells?_some hcs
          obtain ⟨l, g1, g2, g3⟩ := trod_reps n m e cs' _ (C.at C.Z) (by simpa [Cx.at] using hw) (by simpa [Cx.at] using hM) (by simpa [Cx.at] using hlo) hde htr
          have h0 := hcell 0 hpos
          have hc0 : cs'[0]? = some cs'[0] := List.getElem?_eq_getElem (by omega)
          rw [hc0] at h0
          have hadd : ∀ j, ((a.add (i * P.cellsOf e)).add j).block = a.block := by intro j; unfold Addr.add; split <;> split <;> rfl
          have hblk : a.block < w.heap.size ∧ ((a.add (i * P.cellsOf e)).add 0).spot = none := by
            unfold World.cell? at h0
            rw [hadd] at h0
            split at h0
            · rename_i c T fz hh
              have := (Array.getElem?_eq_some_iff.1 hh).1
              split at h0
              · cases h0
              · rename_i hs; exact ⟨this, by simpa using hs⟩
            · cases h0
          have hspot0 : (a.add (i * P.cellsOf e)).spot = none := by simpa [Addr.add] using hblk.2
          have hae : ∀ j, j < P.cellsOf e → (a.add (i * P.cellsOf e)).add j = ⟨a.block, a.off + i * P.cellsOf e + j, none⟩ := by
            intro j _
            unfold Addr.add at hspot0 ⊢
            split at hspot0
            · rename_i hz
              simp only [hz, if_true, Nat.add_zero]
              split
              · rename_i hj; subst hj; cases a; simp_all
              · rfl
            · rename_i hz
              simp only [hz, if_false]
              split
              · rename_i hj; subst hj; rfl
              · rfl
          have hrange : w.rangeAt a.block (a.off + i * P.cellsOf e) cs' := by
            intro j v hj
            have hjl := (List.getElem?_eq_some_iff.1 hj).1
            have := hcell j (by omega)
            rw [hae j (by omega), hj] at this
            exact this
          cases hag : aggT P e with
          | true =>
            refine ⟨l, .agg cs'.toArray, g2, ?_, by simp [Value.cells, hclen], by simpa [Value.cells] using g3, ?_, hblk.1, by simpa [Value.cells] using hrange⟩
            · simp only [mkD, hag, cond_true, rep]
              exact ⟨cs', rfl, g1⟩
            · rintro rfl; simpa [Addr.add] using hspot0
          | false =>
            rw [hag] at hone
            have h1 : P.cellsOf e = 1 := by simpa using hone
            rw [h1] at hclen
            obtain ⟨v, rfl⟩ := List.length_eq_one_iff.1 hclen
            obtain ⟨d, rfl⟩ : ∃ d, l = [d] := List.length_eq_one_iff.1 ((reps_length _ _ g1).symm.trans rfl)
            simp only [reps] at g1
            obtain ⟨v', vs', hv, hd, rfl⟩ := g1
            obtain rfl : v = v' := (List.cons.inj hv).1
            have hcv : v.cells = #[v] := by
              simp only [List.all_cons, List.all_nil, Bool.and_true] at g3
              cases v <;> first | rfl | simp [Value.oneCell'] at g3
            refine ⟨[d], v, g2, by simpa [mkD, hag] using hd, by simp [hcv, h1], by simpa [hcv] using g3, ?_, hblk.1, by simpa [hcv] using hrange⟩
            rintro rfl; simpa [Addr.add] using hspot0
        obtain ⟨xs, g1, g2, g3⟩ := elems_of (C := C.at C.Z) (b := a.block) (s := P.cellsOf e) (p := typed P n e) (f := mkD P e) len a.off (fun i hi => by
          obtain ⟨l, v, h1, h2, h3, h4, _, _, h5⟩ := key i hi
          exact ⟨l, v, h1, h2, h3, h4, by subst hw; exact h5⟩)
        refine ⟨[.imm (P.cellsOf e) (xs.map (mkD P e)) 4], ?_, ⟨xs, rfl, g3⟩, rfl⟩
        simp only [reps, rep, List.length_map, g1]
        refine ⟨_, _, rfl, ⟨some a, cap, rfl, hl, by omega, by simp, by simp, by simp, by simp, by simp, ?_⟩, rfl⟩
        rcases Nat.eq_zero_or_pos len with h0 | h0
        · left; subst h0; have := List.length_eq_zero_iff.1 g1; simp [this]
        · right
          obtain ⟨_, _, _, _, _, _, k1, k2, _⟩ := key 0 h0
          intro Z hZ
          have hZ : C.Z = Z := by simpa [Cx.zone] using hZ
          subst hZ
          exact ⟨a, rfl, k1 rfl, hM _, hlo _, by rw [hw]; exact k2, g2⟩
    · rename_i fs ht
      simp only [typed, ht]
      obtain ⟨xs, m, _, _, hcl, hxl, hf⟩ := DataW.trod_struct ht h
      have key : ∀ (gs : List Field) (k : Nat), (∀ i f, gs[i]? = some f → fs[k + i]? = some f) → ∀ off, fieldsIn P (dataT P n) off gs (P.cellsOf t) = true → off ≤ cs.length → 
          ∃ l, reps C l (cs.drop off) ∧ typedL (typed P n) (gs.map (·.type)) l ∧ (cs.drop off).all (·.oneCell') = true := by
        intro gs
        induction gs with
        | nil =>
          intro k _ off ho _
          simp only [fieldsIn] at ho
          have ho := Nat.eq_of_beq_eq_true ho
          have : cs.drop off = [] := by rw [ho, ← hcl]; simp
          rw [this]
          exact ⟨[], by simp only [reps], rfl, rfl⟩
        | cons f gs ih =>
          intro k hk off ho hle
          simp only [fieldsIn, Bool.and_eq_true] at ho
          obtain ⟨⟨h1, h2⟩, h3⟩ := ho
          have h1 := Nat.eq_of_beq_eq_true h1
          have hfk := hf k f (by simpa using hk 0 f rfl)
          have hkl : k < xs.length := by
            have := hk 0 f rfl
            rw [hxl]
            exact (Array.getElem?_eq_some_iff.1 (by simpa using this)).1
          rw [List.getElem?_eq_getElem hkl, h1] at hfk
          obtain ⟨l1, g1, g2, g3⟩ := trod_reps n m f.type _ _ C hw hM hlo h2 hfk
          have hl1 : ((cs.drop off).take (P.cellsOf f.type)).length = P.cellsOf f.type := by
            have := fieldsIn_le _ _ _ h3
            simp
            omega
          obtain ⟨l2, k1, k2, k3⟩ := ih (k + 1) (fun i f' hi => by have := hk (i + 1) f' (by simpa using hi); rwa [show k + (i + 1) = k + 1 + i by omega] at this) (off + P.cellsOf f.type) h3 (by
            simp at hl1; omega)
          have e : cs.drop off = (cs.drop off).take (P.cellsOf f.type) ++ cs.drop (off + P.cellsOf f.type) := by
            rw [← List.drop_drop, List.take_append_drop]
          refine ⟨l1 ++ l2, by rw [e]; exact reps_append' g1 k1, ⟨l1, l2, rfl, g2, k2⟩, by rw [e, List.all_append, g3, k3]; rfl⟩
      simpa using key fs.toList 0 (fun i f hi => by simpa using hi) 0 hd (Nat.zero_le _)
    · cases hd
theorem trod_rep {r : Reach} {b0 n : Nat} {t : TypeId} {v : Value} {d : DataW H} {ps : List MemPlace} {fr : Nat} (hd : dataT P n t = true) (hval : Value.okWide P w r b0 t v) (h : DataW.Trod enc P w 0 sp true t v d ps) :
    ∃ l, typed P n t l ∧ rep (cx0 w fr) (mkD P t l) v := by
  obtain ⟨fuel, h⟩ := h
  obtain ⟨l, h1, h2, h3⟩ := trod_reps n fuel t _ _ (cx0 w fr) rfl (fun _ h => h) (fun _ => trivial) hd h
  refine ⟨l, h2, ?_⟩
  unfold mkD aggT
  cases n with
  | zero => simp [dataT] at hd
  | succ n =>
    unfold dataT at hd
    unfold Value.okWide at hval
    split at hd
    case h_5 fs ht =>
      rw [ht] at hval ⊢
      obtain ⟨cs, rfl, _⟩ := hval
      simp only [cond_true, rep]
      exact ⟨cs.toList, by simp, by simpa [Value.cells] using h1⟩
    case h_6 => cases hd
    all_goals
      rename_i ht
      rw [ht] at hval ⊢
      simp only [cond_false]
      have hcv : v.cells = #[v] := by
        cases v with
        | agg cs => simp [Cell.okWide, Cell.ok, ht] at hval
        | _ => rfl
      rw [hcv] at h1
      have hl : ∃ d, l = [d] := List.length_eq_one_iff.1 ((reps_length _ _ h1).symm.trans rfl)
      obtain ⟨d, rfl⟩ := hl
      simp only [reps] at h1
      obtain ⟨v', vs', hv, hd', _⟩ := h1
      obtain rfl : v = v' := by simpa using (List.cons.inj hv).1
      exact hd'
def typedAll (P : Program) (n : Nat) : List TypeId → List D → Prop
  | [], l => l = []
  | t :: ts, l => ∃ c r, l = mkD P t c :: r ∧ typed P n t c ∧ typedAll P n ts r
theorem trodAll_reps {r : Reach} {b0 n fr : Nat} : ∀ {ts : List TypeId} {vs : List Value} {ds : List (DataW H)} {ps : List MemPlace}, ts.all (dataT P n) = true → (∀ (j : Nat) t v, ts[j]? = some t → vs[j]? = some v → Value.okWide P w r b0 t v) →
    DataW.TrodAll enc P w 0 sp true ts vs ds ps → ∃ l, typedAll P n ts l ∧ reps (cx0 w fr) l vs
  | [], [], [], _, _, _, _ => ⟨[], rfl, by simp only [reps]⟩
  | t :: ts, v :: vs, d :: ds, ps, hd, hval, h => by
    obtain ⟨p, q, h1, h2, _⟩ := h
    simp only [List.all_cons, Bool.and_eq_true] at hd
    obtain ⟨c, g1, g2⟩ := trod_rep (fr := fr) hd.1 (hval 0 t v rfl rfl) h1
    obtain ⟨l, k1, k2⟩ := trodAll_reps hd.2 (fun j t v h h' => hval (j + 1) t v h h') h2
    exact ⟨_ :: l, ⟨c, l, rfl, g1, k1⟩, by simp only [reps]; exact ⟨_, _, rfl, g2, k2⟩⟩
  | [], _ :: _, _, _, _, _, h => h.elim
  | [], [], _ :: _, _, _, _, h => h.elim
  | _ :: _, [], _, _, _, _, h => h.elim
  | _ :: _, _ :: _, [], _, _, _, h => h.elim
theorem trodAll_stays (hl : laidOutB P = true) {W W' : World} (hB : Below W.heap.size W W') {sp' : Nat → Bool} : ∀ {ts : List TypeId} {vs : List Value} {ds : List (DataW H)} {ps : List MemPlace}, (ts.all fun t => P.readableRec t && Nat.blt t P.types.size) = true →
    DataW.TrodAll enc P W 0 (fun _ => true) true ts vs ds ps → (∀ p ∈ ps, p.block < W.heap.size ∧ sp' p.block = true) → DataW.TrodAll enc P W' 0 sp' true ts vs ds ps
  | [], [], [], _, _, h, _ => h
  | t :: ts, v :: vs, d :: ds, ps, hr, h, hp => by
    obtain ⟨p, q, h1, h2, rfl⟩ := h
    simp only [List.all_cons, Bool.and_eq_true] at hr
    refine ⟨p, q, WideElems.Trod_stays hl hr.1.1 (Nat.le_of_ble_eq_true hr.1.2) h1 (fun x hx => hB.same (hp x (by simp [hx])).1) (fun x hx => (hp x (by simp [hx])).2), ?_, rfl⟩
    exact trodAll_stays hl hB hr.2 h2 fun x hx => hp x (by simp [hx])
  | [], _ :: _, _, _, _, h, _ => h.elim
  | [], [], _ :: _, _, _, h, _ => h.elim
  | _ :: _, [], _, _, _, h, _ => h.elim
  | _ :: _, _ :: _, [], _, _, h, _ => h.elim
theorem law_contract {K : FuncId} {f : Func} {s : ChangeSpec} {apart fresh : Bool} {n : Nat} {tb : TypeId} (hl : laidOutB P = true) (hr : (f.params.toList.all fun t => P.readableRec t && Nat.blt t P.types.size) = true)
    (hd : f.params.toList.all (dataT P n) = true) (hvars : s.vars = []) (hres : f.resultTypes = #[tb]) (hb : P.underlying tb = some .bool)
    (hfn : ∀ ds : List (DataW H), ds.length = f.params.size → s.fn H ds = { results := [.lit (.bool true)], args := ds })
    (hK : ∀ l, typedAll P n f.params.toList l → CallP P K l (.bool true)) {W : World} {base : Nat} {args : Array Value} {ds gs : List (DataW H)} {before : List MemPlace}
    (hval : ∀ (j : Nat) t v, f.params[j]? = some t → args[j]? = some v → Value.okWide P W .any base t v) (hW : DataW.Whole enc P f.params.toList s.vars apart W args.toList ds gs before) :
    Calls P K args W fun e W' => ∃ v, e = .returned v ∧ s.post enc P f apart fresh false false W args v W' := by
  have hW' := hW
  obtain ⟨p, q, hA, hV, rfl, hfz, hnd⟩ := hW
  rw [hvars] at hV
  have hlen : ds.length = f.params.size := by
    have : ∀ {ts : List TypeId} {vs : List Value} {ds : List (DataW H)} {ps : List MemPlace}, DataW.TrodAll enc P W 0 (fun _ => true) true ts vs ds ps → ds.length = ts.length := by
      intro ts
      induction ts with
      | nil => intro vs ds ps h; cases vs <;> cases ds <;> first | rfl | exact h.elim
      | cons t ts ih => intro vs ds ps h; cases vs <;> cases ds <;> first | (obtain ⟨_, _, _, h2, _⟩ := h; simp [ih h2]) | exact h.elim
    simpa using this hA
  have hgs : gs = [] ∧ q = [] := by
    cases gs with
    | nil => exact ⟨rfl, hV⟩
    | cons g gs => exact hV.elim
  obtain ⟨rfl, rfl⟩ := hgs
  obtain ⟨l, h1, h2⟩ := trodAll_reps (fr := W.heap.size) hd (fun j t v h h' => hval j t v (by simpa using h) (by simpa using h')) hA
  refine ((hK l h1).2 W _ h2).mono fun e W' ⟨v, he, hk, _, hv⟩ => ⟨v, he, ?_⟩
  simp only [rep] at hv
  subst hv
  have hB := hk.below
  have hlt := hW'.lt
  have hf := hfn ds hlen
  refine ⟨ds, [], p ++ [], [], p, [], hW', ?_, ?_, ?_, ?_, fun h => by cases h⟩
  · rw [List.append_nil, hf, hres]
    exact ⟨[], [], ⟨1, by simp [DataW.trod, Value.cells, hb]⟩, rfl, rfl⟩
  · rw [List.append_nil, hf]
    exact trodAll_stays hl hB hr hA fun x hx => ⟨hlt x (by simp [hx]), by simpa using hlt x (by simp [hx])⟩
  · rw [List.append_nil, hf, hvars]
    rfl
  · exact hB.frame _
end
theorem list_of {α : Type} {f : α → D} {g : List D → D} : ∀ (xs : List (List D)), (∀ x ∈ xs, ∃ y, g x = f y) → ∃ l : List α, xs.map g = l.map f
  | [], _ => ⟨[], rfl⟩
  | x :: xs, h => by
    obtain ⟨y, hy⟩ := h x (by simp)
    obtain ⟨l, hl⟩ := list_of xs fun x hx => h x (by simp [hx])
    exact ⟨y :: l, by simp only [List.map_cons, hy, hl]⟩
section
variable {P : Program} {n : Nat} {t : TypeId} {l : List D}
theorem mkD_one {d : D} (ha : aggT P t = false) : mkD P t [d] = d := by simp only [mkD, ha, cond_false, List.headD_cons]
theorem typed_int {k : IntKind} (hu : P.underlying t = some (.int k)) (h : typed P (n + 1) t l) : ∃ m, l = [.int k m] := by
  rw [typed, hu] at h; exact h
theorem typed_str (hu : P.underlying t = some .string) (h : typed P (n + 1) t l) : ∃ s, l = [.str s] := by
  rw [typed, hu] at h; exact h
theorem typed_list {α : Type} (f : α → D) {e : TypeId} {s : Nat} (hu : P.underlying t = some (.slice e)) (ha : aggT P t = false) (hc : P.cellsOf e = s) (hx : ∀ x, typed P n e x → ∃ y, mkD P e x = f y) (h : typed P (n + 1) t l) :
    ∃ m : List α, mkD P t l = .imm s (m.map f) 4 := by
  rw [typed, hu] at h
  obtain ⟨xs, rfl, hxs⟩ := h
  obtain ⟨m, hm⟩ := list_of (f := f) (g := mkD P e) xs fun x hx' => hx x (hxs x hx')
  exact ⟨m, by rw [mkD_one ha, hm, hc]⟩
theorem typed_one {e : TypeId} (hu : P.underlying t = some (.slice e)) (h : typed P (n + 1) t l) : ∃ d, l = [d] := by
  rw [typed, hu] at h
  obtain ⟨xs, rfl, _⟩ := h
  exact ⟨_, rfl⟩
theorem typedAll_cons {ts : List TypeId} (h : typedAll P n (t :: ts) l) : ∃ c r, l = mkD P t c :: r ∧ typed P n t c ∧ typedAll P n ts r := h
theorem typedAll_nil (h : typedAll P n [] l) : l = [] := h
end
end Go.Tm
end
section
namespace Go.Proofs.Ytnhnalcgbpebiaa.orderBegins
open Go.ChangeShapes Go.WideShapes Go.RowKit Go.Tm
set_option maxRecDepth 100000
theorem own : ownKnob Try.prog.godebug = none := by kernel_rfl
theorem agg3 : aggT Try.prog 3 = false := by kernel_rfl
theorem agg52 : aggT Try.prog 52 = false := by kernel_rfl
theorem agg9 : aggT Try.prog 9 = false := by kernel_rfl
theorem cells9 : Try.prog.cellsOf 9 = 1 := by kernel_rfl
theorem tc52 {n : Nat} {l : List D} (h : typed Try.prog (n + 2) 52 l) : ∃ m : List (List UInt8), l = [.imm 1 (m.map D.str) 4] := by
  obtain ⟨d, hd⟩ := typed_one Try.underlying52 h
  obtain ⟨m, hm⟩ := typed_list D.str Try.underlying52 agg52 cells9 (fun x hx => by
    obtain ⟨a, ha⟩ := typed_str Try.underlying9 hx
    exact ⟨a, ha ▸ mkD_one agg9⟩) h
  rw [hd, mkD_one agg52] at hm
  exact ⟨m, by rw [hd, hm]⟩
theorem params12 : Try.f12.params.toList = [3, 52, 3] := by kernel_rfl
theorem hK (l : List D) (h : typedAll Try.prog 8 Try.f12.params.toList l) : CallP Try.prog 12 l (.bool true) := by
  rw [params12] at h
  obtain ⟨c0, r0, e0, h0, h⟩ := typedAll_cons h
  obtain ⟨c1, r1, e1, h1, h⟩ := typedAll_cons h
  obtain ⟨c2, r2, e2, h2, h⟩ := typedAll_cons h
  have ez := typedAll_nil h
  obtain ⟨a0, f0⟩ := typed_int Try.underlying3 h0
  obtain ⟨a1, f1⟩ := tc52 (n := 6) h1
  obtain ⟨a2, f2⟩ := typed_int Try.underlying3 h2
  rw [e0, e1, e2, ez, f0, f1, f2, mkD_one agg3, mkD_one agg52]
  exact callP_towncrierlaw16_OrderBegins a0 a1 a2 _ (begins_law a0 a1 a2)
set_option maxRecDepth 100000 in
theorem lifted (os : Os) (started : os.Started) (H : Type) (enc : TypeId × Value → H) :
    ReturnsInHanded {} Try.checked os 12 .any (Rows.orderBeginsSpec.pre6 enc Try.prog Try.f12 Rows.orderBeginsRow.domain false) (Rows.orderBeginsSpec.post enc Try.prog Try.f12 false true false false) := by
  refine returnsInHanded_of_change (C := Try.checked) own started (by kernel_rfl) Try.func12
    (ChangeSpec.witness6 (enc := enc) (C := Try.checked) false ⟨#[], #[.int .i64 0, .slice none 0 0, .int .i64 0], []⟩ 8 (by kernel_rfl) (by kernel_rfl) (by kernel_rfl) (by kernel_rfl)) ?_
  intro W base args ds gs before hval hW _ _
  exact law_contract (K := 12) (n := 8) (tb := 4) (by kernel_rfl) (by kernel_rfl) (by kernel_rfl) rfl rfl Try.underlying4 (fun ds h => by
    match ds, h with
    | [_, _, _], _ => rfl) hK hval hW
end Go.Proofs.Ytnhnalcgbpebiaa.orderBegins
end

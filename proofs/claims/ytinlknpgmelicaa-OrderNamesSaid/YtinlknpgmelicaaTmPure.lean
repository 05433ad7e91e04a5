/- Contracts of functions that turn nothing, off those over own memory. -/
import Derived.Test.YtinlknpgmelicaaTmRule
namespace Go.Tm
open Go.RowKit Go.WideShapes

mutual
/-- what any reading of a datum tells -/
def wf : D → Prop
  | .int k n => k.min ≤ n ∧ n ≤ k.max
  | .str l => (l.length : Int) ≤ 9223372036854775807
  | .imm _ l c => (l.length : Int) ≤ 9223372036854775807 ∧ (c < 8 → wfL l)
  | .ref _ _ _ len _ => (len : Int) ≤ 9223372036854775807
  | .agg l => wfL l
  | .tuple l => wfL l
  | _ => True
def wfL : List D → Prop
  | [] => True
  | d :: ds => wf d ∧ wfL ds
end
mutual
theorem rep_wf {C : Cx} : ∀ (d : D) (v : Value), rep C d v → wf d
  | .int k n, v, h => by simp only [rep] at h; simp only [wf]; exact h.2
  | .str l, v, h => by simp only [rep] at h; simp only [wf]; exact h.2
  | .imm s l c, v, h => by
    simp only [rep] at h; simp only [wf]
    obtain ⟨a, cap, _, h1, h2, _, _, _, _, _, h3⟩ := h
    refine ⟨by omega, fun hc => ?_⟩
    rcases h3 with rfl | h3
    · simp only [wfL]
    · obtain ⟨_, _, _, _, _, _, he⟩ := h3 C.Z (by simp [Cx.zone, Nat.div_eq_of_lt hc])
      exact elems_wf l _ _ _ he
  | .ref id s off len oc, v, h => by
    simp only [rep] at h; simp only [wf]
    obtain ⟨_, a, cap, _, h1, h2, _⟩ := h
    omega
  | .agg l, v, h => by
    simp only [rep] at h; simp only [wf]
    obtain ⟨cs, _, h⟩ := h
    exact reps_wf l cs h
  | .tuple l, v, h => by
    simp only [rep] at h; simp only [wf]
    obtain ⟨cs, _, h⟩ := h
    exact reps_wf l cs h
  | .bool _, _, _ | .ptr _ _, _, _ | .eptr _ _ _ _, _, _ | .iptr _ _, _, _ | .nilptr, _, _ | .fn _ _, _, _ | .nilfn, _, _ | .iface _ _, _, _ | .nilIface, _, _ | .mref _, _, _ | .nilmap, _, _ | .when _ _, _, _ | .undef, _, _ => by simp only [wf]
theorem reps_wf {C : Cx} : ∀ (l : List D) (vs : List Value), reps C l vs → wfL l
  | [], _, _ => by simp only [wfL]
  | d :: ds, vs, h => by
    simp only [reps] at h; simp only [wfL]
    obtain ⟨v, vs', _, h1, h2⟩ := h
    exact ⟨rep_wf d v h1, reps_wf ds vs' h2⟩
theorem elems_wf {C : Cx} : ∀ (l : List D) (b o s : Nat), elems C l b o s → wfL l
  | [], b, o, s, h => by simp only [wfL]
  | d :: ds, b, o, s, h => by
    simp only [elems] at h
    obtain ⟨⟨v, h1, _⟩, h2⟩ := h
    simp only [wfL]
    exact ⟨rep_wf d v h1, elems_wf ds _ _ _ h2⟩
end

theorem wfL_iff : ∀ (l : List D), wfL l ↔ ∀ d ∈ l, wf d
  | [] => by simp [wfL]
  | d :: ds => by simp [wfL, wfL_iff ds]

section
variable {P : Program} {tab : Nat → TI}

/-- what any reading of the arguments tells may be used -/
theorem callH_wf {K : FuncId} {args : List D} {H : List (Nat × Blk)} {r : D} {eff : List (Nat × Option Blk)} {nw : Nat × Nat} (he : Enters P K) (h : wfL args → CallH P K args H r eff nw) : CallH P K args H r eff nw :=
  ⟨he, fun fr w g hp nu vs a1 a2 a3 hvs => (h (reps_wf _ _ hvs)).2 fr w g hp nu vs a1 a2 a3 hvs⟩

theorem callP_of_callH {K : FuncId} {args : List D} {r : D} {eff : List (Nat × Option Blk)} {nw : Nat × Nat} (hr : r.ids = []) (hk : okM new1 r = true) (h : CallH P K args [] r eff nw) : CallP P K args r := by
  refine ⟨h.1, fun w vs hvs => ?_⟩
  let g : Gh := ⟨fun _ => none, fun _ => True, fun m => if m = 1 then some (fun x => w.heap.size ≤ x) else if m = 2 then some (fun x => x < w.heap.size) else none⟩
  have hM : Mem w.heap.size w g (fun _ => none) (fun _ => true) := by
    refine ⟨(fun id blk h => by cases h), fun id id' b o o' h => absurd rfl h, fun id _ => ⟨rfl, rfl⟩, ⟨fun _ _ => trivial, ⟨_, rfl, fun x hx => ⟨hx, trivial⟩, fun x hx => hx⟩, ⟨_, rfl, fun x hx => ⟨hx, trivial⟩⟩, ?_⟩, Nat.le_refl _⟩
    intro m Zm hm hz
    have : g.zn m = none := by
      simp only [g]
      rw [if_neg (by omega), if_neg (by omega)]
    rw [this] at hz; cases hz
  have hle : Cx.Le (cx0 w w.heap.size) (cx w g fun _ => none) := by
    refine ⟨fun m _ Z' hZ' => ⟨Z', hZ', fun b _ k2 _ => ⟨?_, k2, rfl⟩⟩, fun _ _ => rfl, fun _ => rfl, (fun x => by cases x), (fun x => by cases x)⟩
    rintro ⟨id, o, h1, _⟩
    exact h1 rfl
  refine (h.2 w.heap.size w g (fun _ => none) (fun _ => true) vs hM (fun id b h => by cases h) (fun _ _ _ => rfl) (reps_le hle _ _ hvs)).mono ?_
  rintro e w' ⟨v, g', he, ha⟩
  refine ⟨v, he, ha.keep.mono ?_, hk, ?_⟩
  · rintro i _ ⟨id, o, h1, _⟩
    exact h1 rfl
  · refine rep_leQ (C := (cx w' g' (effH (fun _ => none) eff)).noref) (C' := cx0 w' w.heap.size) (q := new1) ?_ (fun _ _ => rfl) rfl rfl r v hk (rep_noids r v hr ha.res)
    intro m hm Z' hZ'
    have hm : m = 1 := Nat.eq_of_beq_eq_true hm
    subst hm
    refine ⟨fun b => w.heap.size ≤ b, ?_, fun b _ k2 _ => ⟨fun h => h, ?_, rfl⟩⟩
    · show g'.zn 1 = _
      rw [ha.gz.2]
      rfl
    · have : (fun b => w.heap.size ≤ b) = Z' := by simpa [Cx.zone, cx0] using hZ'
      rw [← this]; exact k2

/-- The contract of a function that turns nothing, by its code. -/
theorem callP_intro (hT : TabOk P tab) {K : FuncId} {fn : Func} {c : Code} {args : List D} {r : D} (lim : Nat) (hf : P.funcs[K]? = some fn) (hb : fn.body = some c) (hname : fn.name ≠ "runtime.NumGoroutine") (hr : r.ids = []) (hk : okM new1 r = true) (hlen : args.length ≤ fn.ntmps)
    (h : wfL args → Ok P lim fn.ntmps c ⟨argVars 0 args, [], 0⟩ fun e st => (e = .normal ∨ e = .ret) ∧ ∃ ds, resL tab st fn.results.toList = some (ds, true) ∧ resT ds = r) : CallP P K args r := by
  refine callP_of_callH (eff := []) (nw := (0, lim)) hr hk (callH_wf ⟨fn, hf, hname, by rw [hb]; rfl⟩ fun hwf => ?_)
  refine callH_intro hT hf hb hname hlen (fun x hx => by cases hx) ((h hwf).mono ?_)
  rintro e st ⟨h1, ds, h2, h3⟩
  exact ⟨h1, ds, h2, h3, [], (fun i x h => by cases h), rfl⟩

/-- The contract over own memory, by its code. -/
theorem callH_intro' (hT : TabOk P tab) {K : FuncId} {fn : Func} {c : Code} {args : List D} {H : List (Nat × Blk)} {r : D} {eff : List (Nat × Option Blk)} {nw : Nat × Nat} (hf : P.funcs[K]? = some fn) (hb : fn.body = some c) (hname : fn.name ≠ "runtime.NumGoroutine") (hlen : args.length ≤ fn.ntmps)
    (hE : ∀ x ∈ eff, x.1 ∈ H.map (·.1) ∨ nw.1 ≤ x.1 ∧ x.1 < nw.2)
    (h : wfL args → Ok P nw.2 fn.ntmps c ⟨argVars 0 args, H, nw.1⟩ fun e st => (e = .normal ∨ e = .ret) ∧ ∃ ds, resL tab st fn.results.toList = some (ds, true) ∧ resT ds = r ∧ ∃ h2 : List (Nat × Blk), (∀ i x, getL h2 i = some x → getL st.heap i = some x) ∧ getL h2 = effH (getL H) eff) : CallH P K args H r eff nw :=
  callH_wf ⟨fn, hf, hname, by rw [hb]; rfl⟩ fun hwf => callH_intro hT hf hb hname hlen hE (h hwf)
end

/-- how a function over own memory ends: what it hands back, which blocks stand then -/
theorem retH {tab : Nat → TI} {st : St} {rs : List ResultVar} {r : D} {H : List (Nat × Blk)} {eff : List (Nat × Option Blk)} (V : List Nat) (hr : ResIs tab st rs r) (he : pickL V st.heap = effL H eff) :
    ∃ ds, resL tab st rs = some (ds, true) ∧ resT ds = r ∧ ∃ h2 : List (Nat × Blk), (∀ i x, getL h2 i = some x → getL st.heap i = some x) ∧ getL h2 = effH (getL H) eff := by
  obtain ⟨ds, h1, h2⟩ := hr.to
  exact ⟨ds, h1, h2, pickL V st.heap, fun i x h => getL_pick V _ i x h, by funext i; rw [he, getL_effL]⟩

def ints (l : List Int) : List D := l.map (D.int .i64)
theorem ints_ids (l : List Int) : D.idsL (ints l) = [] := by
  induction l with
  | nil => rfl
  | cons x l ih => simp only [ints, List.map_cons, D.idsL, D.ids, List.nil_append]; exact ih
theorem ints_unf (l : List Int) : unfL (ints l) = ints l := by
  induction l with
  | nil => rfl
  | cons x l ih => simp only [ints, List.map_cons, unfL, unf]; exact congrArg _ ih
theorem ints_okM (q : Nat → Bool) (l : List Int) : okML q (ints l) = true := by
  induction l with
  | nil => rfl
  | cons x l ih => simp only [ints, List.map_cons, okML, okM, Bool.true_and]; exact ih
theorem ints_len (l : List Int) : (ints l).length = l.length := by simp [ints]

theorem lend_ints {hp : Nat → Option Blk} {id n : Nat} {oc : Option Nat} {l : List Int} {e : TypeId} (h : hp id = some (.arr e 1 true (ints l))) (hn : n = l.length) : lend hp (.ref id 1 0 n oc) = (.imm 1 (ints l) 4, true) := by
  subst hn
  have ht : (ints l).take l.length = ints l := List.take_of_length_le (by rw [ints_len]; exact Nat.le_refl _)
  simp only [lend, h, List.drop_zero, ht, ints_unf, ints_okM, ints_ids, ints_len, Nat.zero_add, Nat.beq_refl, List.isEmpty_nil, Bool.and_true, Bool.true_and, Prod.mk.injEq, true_and]
  exact Nat.ble_eq_true_of_le (Nat.le_refl _)

/-! ## Weaker data -/
def Wk (d d' : D) : Prop := ∀ C v, rep C d v → rep C d' v
def WkL (l l' : List D) : Prop := ∀ C vs, reps C l vs → reps C l' vs
theorem Wk.refl (d : D) : Wk d d := fun _ _ h => h
theorem WkL.refl (l : List D) : WkL l l := fun _ _ h => h
theorem WkL.cons {d d' : D} {l l' : List D} (h : Wk d d') (hl : WkL l l') : WkL (d :: l) (d' :: l') := fun C vs hv => by
  simp only [reps] at hv ⊢
  obtain ⟨v, vs', e, h1, h2⟩ := hv
  exact ⟨v, vs', e, h C v h1, hl C vs' h2⟩
theorem Wk.agg {l l' : List D} (hl : WkL l l') : Wk (.agg l) (.agg l') := fun C v hv => by
  simp only [rep] at hv ⊢
  obtain ⟨cs, e, h⟩ := hv
  exact ⟨cs, e, hl C cs h⟩
theorem Wk.nil (s s' c : Nat) : Wk (.imm s [] c) (.imm s' [] 4) := fun C v h => rep_nil_any rfl (by simp) C v h
theorem callP_wk {P : Program} {K : FuncId} {args args' : List D} {r : D} (h : WkL args args') (hK : CallP P K args' r) : CallP P K args r := callP_le h hK
end Go.Tm

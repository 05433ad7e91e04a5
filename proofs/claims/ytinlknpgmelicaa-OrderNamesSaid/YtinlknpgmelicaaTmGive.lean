/- A new list that is handed back, as one that is only read. -/
import Derived.Test.YtinlknpgmelicaaTmOwn
namespace Go.Tm
open Go.RowKit Go.WideShapes

mutual
/-- plain data: no memory behind them -/
def pl : D → Bool
  | .bool _ | .int _ _ | .str _ => true
  | .agg l => plL l
  | _ => false
def plL : List D → Bool
  | [] => true
  | d :: ds => pl d && plL ds
end
mutual
theorem rep_pl {C C' : Cx} : ∀ (d : D) (v : Value), pl d = true → rep C d v → rep C' d v
  | .bool _, _, _, h => by simpa only [rep] using h
  | .int _ _, _, _, h => by simpa only [rep] using h
  | .str _, _, _, h => by simpa only [rep] using h
  | .agg l, v, hk, h => by
    simp only [rep, pl] at h hk ⊢
    obtain ⟨cs, e, h⟩ := h
    exact ⟨cs, e, reps_pl l cs hk h⟩
  | .imm _ _ _, _, hk, _ | .ref _ _ _ _ _, _, hk, _ | .ptr _ _, _, hk, _ | .eptr _ _ _ _, _, hk, _ | .iptr _ _, _, hk, _ | .nilptr, _, hk, _ | .tuple _, _, hk, _ | .fn _ _, _, hk, _ | .nilfn, _, hk, _ | .iface _ _, _, hk, _ | .nilIface, _, hk, _ | .mref _, _, hk, _ | .nilmap, _, hk, _ | .when _ _, _, hk, _ | .undef, _, hk, _ => by simp [pl] at hk
theorem reps_pl {C C' : Cx} : ∀ (l : List D) (vs : List Value), plL l = true → reps C l vs → reps C' l vs
  | [], _, _, h => by simpa only [reps] using h
  | d :: ds, vs, hk, h => by
    simp only [reps, plL, Bool.and_eq_true] at h hk ⊢
    obtain ⟨v, vs', e, h1, h2⟩ := h
    exact ⟨v, vs', e, rep_pl d v hk.1 h1, reps_pl ds vs' hk.2 h2⟩
end
theorem elems_pl {C C' : Cx} (hw : C'.w = C.w) : ∀ (l : List D) (b o s : Nat), plL l = true → elems C l b o s → elems C' l b o s
  | [], _, _, _, _, _ => by simp only [elems]
  | d :: ds, b, o, s, hk, h => by
    simp only [plL, Bool.and_eq_true] at hk
    simp only [elems] at h ⊢
    obtain ⟨⟨v, h1, h2, h3, h4⟩, h5⟩ := h
    exact ⟨⟨v, rep_pl d v hk.1 h1, h2, h3, by rw [hw]; exact h4⟩, elems_pl hw ds b (o + s) s hk.2 h5⟩
/-- a function that hands back a new list of plain data -/
theorem callP_give {P : Program} {K : FuncId} {args : List D} {id s n : Nat} {oc : Option Nat} {e : TypeId} {l : List D} {nw : Nat × Nat} (hn : n = l.length) (hl : plL l = true)
    (h : CallH P K args [] (.ref id s 0 n oc) [(id, some (.arr e s true l))] nw) : CallP P K args (.imm s l 12) := by
  subst hn
  refine ⟨h.1, fun w vs hvs => ?_⟩
  let g : Gh := ⟨fun _ => none, fun _ => True, fun m => if m = 1 then some (fun x => w.heap.size ≤ x) else if m = 2 then some (fun x => x < w.heap.size) else none⟩
  have hM : Mem w.heap.size w g (fun _ => none) (fun _ => true) := by
    refine ⟨(fun id blk h => by cases h), fun id id' b o o' h => absurd rfl h, fun id _ => ⟨rfl, rfl⟩, ⟨fun _ _ => trivial, ⟨_, rfl, fun x hx => ⟨hx, trivial⟩, fun x hx => hx⟩, ⟨_, rfl, fun x hx => ⟨hx, trivial⟩⟩, ?_⟩, Nat.le_refl _⟩
    intro m Zm hm hz
    have : g.zn m = none := by
      simp only [g]
      rw [if_neg (by omega), if_neg (by omega)]
    rw [this] at hz; cases hz
  have hle : Cx.Le (cx0 w w.heap.size) (cx w g fun _ => none) := by
    refine ⟨fun m _ Z' hZ' => ⟨Z', hZ', fun b _ k2 _ => ⟨?_, k2, rfl⟩⟩, fun _ _ => rfl, fun _ => rfl, (fun x => by cases x), (fun x => by cases x)⟩
    rintro ⟨id, o, h1, _⟩
    exact h1 rfl
  refine (h.2 w.heap.size w g (fun _ => none) (fun _ => true) vs hM (fun id b h => by cases h) (fun _ _ _ => rfl) (reps_le hle _ _ hvs)).mono ?_
  rintro ee w' ⟨v, g', he, ha⟩
  refine ⟨v, he, ha.keep.mono ?_, by simp [okM, new1], ?_⟩
  · rintro i _ ⟨id, o, h1, _⟩
    exact h1 rfl
  have hp : effH (fun _ => none) [(id, some (.arr e s true l))] id = some (.arr e s true l) := by simp [effH, getL]
  have hres := ha.res
  simp only [rep] at hres ⊢
  obtain ⟨_, ad, cap, hv, h1, h2, h3, _, h4⟩ := hres
  refine ⟨ad, cap, hv, h1, h2, by simp, by simp, by simp, h3, fun _ => rfl, ?_⟩
  rcases h4 with h4 | ⟨b, T, nn, hσ, had, hsh, _⟩
  · left
    exact List.length_eq_zero_iff.1 (by omega)
  · by_cases hl0 : l = []
    · exact .inl hl0
    right
    intro Z hZ
    have hZ : (fun b => w.heap.size ≤ b) = Z := by simpa [Cx.zone, cx0] using hZ
    subst hZ
    rcases ha.mem.hd id _ hp with ⟨hn, _⟩ | ⟨b', cs, hσ', hblk, hsz, hel⟩
    · exact absurd hn hl0
    have e1 := hσ'.symm.trans hσ
    simp only [Option.some.injEq, Prod.mk.injEq] at e1
    obtain ⟨rfl, _⟩ := e1
    have hown : w.heap.size ≤ b' := by
      rcases ha.own b' ⟨id, 0, by rw [hp]; simp, hσ'⟩ with h | ⟨id2, o2, h, _⟩
      · exact h
      · exact absurd rfl h
    refine ⟨_, had, rfl, fun h => h, hown, shape_lt hsh, ?_⟩
    rw [Nat.zero_mul]
    exact elems_pl (C := { cx w' g' (effH (fun _ => none) [(id, some (.arr e s true l))]) with rf := !true }) (C' := (cx0 w' w.heap.size).at fun b => w.heap.size ≤ b) rfl l _ _ _ hl hel
end Go.Tm

namespace Go.Tm
open Go.RowKit Go.WideShapes
/-! ## Loops whose own blocks change -/
def loopQJ {ι : Type} (V : List Nat) (H : ι → List Nat) (S : ι → St) (Pr : ι → Prop) (μ : ι → Nat) (i : ι) (Q : Exit → St → Prop) : Exit → St → Prop := fun e st' => match e with | .normal => ∃ j, (⟨pickL V st'.vars, pickL (H j) st'.heap, (S j).nx⟩ : St) = S j ∧ st'.nx ≤ (S j).nx ∧ Pr j ∧ μ j < μ i | e => Q e st'

theorem Ok.loopJ {P : Program} {lim n : Nat} {c : Code} {st : St} {Q : Exit → St → Prop} {ι : Type} (V : List Nat) (H : ι → List Nat) (S : ι → St) (Pr : ι → Prop) (μ : ι → Nat) (i0 : ι) (hs : (⟨pickL V st.vars, pickL (H i0) st.heap, (S i0).nx⟩ : St) = S i0) (hn : st.nx ≤ (S i0).nx) (h0 : Pr i0)
    (round : ∀ i, Pr i → Ok P lim n c (S i) (loopQJ V H S Pr μ i Q)) : Ok P lim n (.loop c) st Q := by
  have key : ∀ m i, μ i = m → Pr i → OkL P lim n c (S i) Q := by
    intro m
    induction m using Nat.strongRecOn with
    | _ m ih =>
      intro i hm hI
      refine .round ((round i hI).mono ?_)
      intro e s hq
      cases e with
      | normal =>
        obtain ⟨j, h1, h2, h3, h4⟩ := hq
        exact .sub (h1 ▸ sub_of V (H j) s h2) (ih (μ j) (hm ▸ h4) j rfl h3)
      | _ => exact hq
  exact OkL.to (.sub (hs ▸ sub_of V (H i0) st hn) (key _ i0 rfl h0))

/-- a function's result, said weaker -/
theorem callP_res {P : Program} {K : FuncId} {args : List D} {r r' : D} (hk : okM new1 r' = true) (hr : ∀ C v, C.fl = true → rep C r v → rep C r' v) (h : CallP P K args r) : CallP P K args r' :=
  ⟨h.1, fun w vs hvs => (h.2 w vs hvs).mono fun _ _ ⟨v, h1, h2, _, h4⟩ => ⟨v, h1, h2, hk, hr _ _ rfl h4⟩⟩

theorem rep_nil_new (s s' : Nat) (C : Cx) (v : Value) (hf : C.fl = true) (h : rep C (.imm s [] 0) v) : rep C (.imm s' [] 12) v := by
  simp only [rep] at h ⊢
  obtain ⟨a, cap, rfl, h1, h2, _, _, _, h6, _⟩ := h
  exact ⟨a, cap, rfl, h1, h2, by simp, by simp, by simp, h6, fun _ => hf, .inl trivial⟩

theorem plL_ints (l : List Int) : plL (ints l) = true := by
  induction l with
  | nil => rfl
  | cons x l ih => simp only [ints, List.map_cons, plL, pl, Bool.true_and]; exact ih
theorem ints_snoc (l : List Int) (x : Int) : ints l ++ [.int .i64 x] = ints (l ++ [x]) := by simp [ints]
end Go.Tm

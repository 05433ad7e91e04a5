/- Operations with an effect: variables, slices made, stores. -/
import Derived.Test.YtinlknpgmelicaaTmEff2
namespace Go.Tm
open Go.RowKit Go.WideShapes

/-! ### Marks let go -/
mutual
theorem rep_unfZ {C : Cx} {q : Nat → Bool} {Zt : Nat → Prop} (hq : ∀ m, q m = true → ∃ Z, C.zone m = some Z ∧ ∀ b, ¬ C.M b → Z b → b < C.w.heap.size → Zt b) : ∀ (d : D) (v : Value), okM q d = true → d.ids = [] → rep C d v → rep (C.at Zt) (unf d) v
  | .bool b, v, _, _, h => by simpa only [rep, unf] using h
  | .int k n, v, _, _, h => by simpa only [rep, unf] using h
  | .str l, v, _, _, h => by simpa only [rep, unf] using h
  | .agg l, v, hk, hi, h => by
    simp only [rep, unf, okM, D.ids] at h hk hi ⊢
    obtain ⟨cs, rfl, h⟩ := h
    exact ⟨cs, rfl, reps_unfZ hq l cs hk hi h⟩
  | .imm s l c, v, hk, _, h => by
    simp only [rep, unf, okM, Bool.or_eq_true, List.isEmpty_iff] at h hk ⊢
    obtain ⟨a, cap, rfl, h1, h2, h3, h4, h5, h6, hfl, h7⟩ := h
    have hm : c % 8 % 8 = c % 8 := by omega
    have hm0 : c % 8 / 8 = 0 := by omega
    rw [hm, hm0]
    refine ⟨a, cap, rfl, h1, h2, h3, h4, h5, h6, fun h => absurd h (by omega), ?_⟩
    rcases h7 with h7 | h7
    · exact .inl h7
    rcases hk with hk | hk
    · obtain ⟨Z, hZ, hb⟩ := hq _ hk
      obtain ⟨a0, ha, hs, hM, hlo, hlt, he⟩ := h7 Z hZ
      right
      intro Z' hZ'
      have : Z' = Zt := by simpa [Cx.zone, Cx.at] using hZ'.symm
      subst this
      exact ⟨a0, ha, hs, hM, hb _ hM hlo hlt, hlt, elems_le (C := C.at Z) (C' := (C.at Z').at Z') (Cx.Le.inner (C := C) (C' := C) (fun _ _ => rfl) fun b g1 g2 g3 => ⟨g1, hb b g1 g2 g3, rfl⟩) _ _ _ _ rfl he⟩
    · exact .inl hk
  | .ref id s off len oc, v, _, hi, h => by simp [D.ids] at hi
  | .ptr id off, v, _, hi, h => by simp [D.ids] at hi
  | .eptr id s i off, v, _, hi, h => by simp [D.ids] at hi
  | .iptr m l, v, hk, _, h => by
    simp only [rep, unf, okM] at h hk ⊢
    obtain ⟨a0, rfl, hs, hfl, h7⟩ := h
    refine ⟨a0, rfl, hs, fun h => absurd h (by omega), ?_⟩
    rcases h7 with h7 | h7
    · exact .inl h7
    obtain ⟨Z, hZ, hb⟩ := hq _ hk
    obtain ⟨hM, hlo, hlt, he⟩ := h7 Z hZ
    right
    intro Z' hZ'
    have : Z' = Zt := by simpa [Cx.zone, Cx.at] using hZ'.symm
    subst this
    exact ⟨hM, hb _ hM hlo hlt, hlt, cels_le (C := C.at Z) (C' := (C.at Z').at Z') (Cx.Le.inner (C := C) (C' := C) (fun _ _ => rfl) fun b g1 g2 g3 => ⟨g1, hb b g1 g2 g3, rfl⟩) _ _ _ rfl he⟩
  | .nilptr, v, _, _, h => by simpa only [rep, unf] using h
  | .tuple l, v, hk, hi, h => by
    simp only [rep, unf, okM, D.ids] at h hk hi ⊢
    obtain ⟨cs, rfl, h⟩ := h
    exact ⟨cs, rfl, reps_unfZ hq l cs hk hi h⟩
  | .fn f l, v, hk, hi, h => by
    simp only [rep, unf, okM, D.ids] at h hk hi ⊢
    obtain ⟨cs, rfl, h⟩ := h
    exact ⟨cs, rfl, reps_unfZ hq l cs hk hi h⟩
  | .nilfn, v, _, _, h => by simpa only [rep, unf] using h
  | .iface t d, v, hk, hi, h => by
    simp only [rep, unf, okM, D.ids] at h hk hi ⊢
    obtain ⟨x, rfl, h⟩ := h
    exact ⟨x, rfl, rep_unfZ hq d x hk hi h⟩
  | .nilIface, v, _, _, h => by simpa only [rep, unf] using h
  | .mref id, v, _, hi, h => by simp [D.ids] at hi
  | .nilmap, v, _, _, h => by simpa only [rep, unf] using h
  | .when c d, v, hk, hi, h => by
    simp only [rep, unf, okM, D.ids] at h hk hi ⊢
    exact ⟨fun hc => rep_unfZ hq d v hk hi (h.1 hc), h.2⟩
  | .undef, v, _, _, _ => by simp only [rep, unf]
theorem reps_unfZ {C : Cx} {q : Nat → Bool} {Zt : Nat → Prop} (hq : ∀ m, q m = true → ∃ Z, C.zone m = some Z ∧ ∀ b, ¬ C.M b → Z b → b < C.w.heap.size → Zt b) : ∀ (l : List D) (vs : List Value), okML q l = true → D.idsL l = [] → reps C l vs → reps (C.at Zt) (unfL l) vs
  | [], vs, _, _, h => by simpa only [reps, unfL] using h
  | d :: ds, vs, hk, hi, h => by
    simp only [reps, unfL, okML, Bool.and_eq_true, D.idsL, List.append_eq_nil_iff] at h hk hi ⊢
    obtain ⟨v, vs', rfl, h1, h2⟩ := h
    exact ⟨v, vs', rfl, rep_unfZ hq d v hk.1 hi.1 h1, reps_unfZ hq ds vs' hk.2 hi.2 h2⟩
end

theorem unfL_length : ∀ (l : List D), (unfL l).length = l.length
  | [] => rfl
  | d :: ds => by simp only [unfL, List.length_cons, unfL_length ds]

theorem Mem.low {fr w g hp nu} (h : Mem fr w g hp nu) : ∀ m, low3 m = true → ∃ Z, (cx w g hp).zone m = some Z ∧ ∀ b, ¬ (cx w g hp).M b → Z b → b < (cx w g hp).w.heap.size → g.Z b := by
  intro m hm
  obtain ⟨Z1, h1, h2, _⟩ := h.zs.z1
  obtain ⟨Z2, h3, h4⟩ := h.zs.z2
  have hm : m < 3 := Nat.le_of_ble_eq_true hm
  rcases m with _ | _ | _ | m
  · exact ⟨_, rfl, fun b _ h _ => h⟩
  · exact ⟨Z1, h1, fun b _ h _ => (h2 b h).2⟩
  · exact ⟨Z2, h3, fun b _ h _ => (h4 b h).2⟩
  · omega

/-! ### Elements by their places -/
theorem elems_iff {C : Cx} : ∀ (l : List D) (b o s : Nat), elems C l b o s ↔ ∀ i (hi : i < l.length), ∃ v, rep C l[i] v ∧ v.cells.size = s ∧ v.cells.toList.all (·.oneCell') = true ∧ C.w.rangeAt b (o + i * s) v.cells.toList
  | [], b, o, s => by simp only [elems]; exact ⟨fun _ i hi => by simp at hi, fun _ => trivial⟩
  | d :: ds, b, o, s => by
    simp only [elems]
    rw [elems_iff ds b (o + s) s]
    constructor
    · rintro ⟨h1, h2⟩ i hi
      cases i with
      | zero => simpa using h1
      | succ i =>
        have := h2 i (by simpa using hi)
        rw [show o + (i + 1) * s = o + s + i * s by rw [Nat.succ_mul]; omega]
        simpa using this
    · intro h
      refine ⟨?_, fun i hi => ?_⟩
      · have h0 := h 0 (by simp)
        rw [Nat.zero_mul, Nat.add_zero] at h0
        exact h0
      have := h (i + 1) (by simpa using hi)
      rw [show o + (i + 1) * s = o + s + i * s by rw [Nat.succ_mul]; omega] at this
      simpa using this

theorem rangeAt_cells {w : World} {b o : Nat} {cs : Array Value} {T : TypeId} {fz : Nat × Nat} {l : List Value} (h : w.heap[b]? = some (.cells cs T fz)) : w.rangeAt b o l ↔ ∀ j v, l[j]? = some v → cs[o + j]? = some v := by
  unfold World.rangeAt
  simp [World.cell?, h]

theorem setEl_rep {C : Cx} {d : D} {v : Value} {off : Nat} {new : List D} {nv : List Value} (h : rep C d v) (hn : reps C new nv) (hfit : off + new.length ≤ d.cells.length) (h0 : new ≠ []) (h1 : nv.all (·.oneCell') = true) :
    ∃ v', rep C (setEl d off new) v' ∧ v'.cells.toList = v.cells.toList.take off ++ nv ++ v.cells.toList.drop (off + nv.length) := by
  have hl := reps_length _ _ hn
  have hlp : 0 < new.length := List.length_pos_iff.2 h0
  by_cases ha : ∃ l, d = .agg l
  · obtain ⟨l, rfl⟩ := ha
    simp only [rep] at h
    obtain ⟨cs, rfl, h⟩ := h
    refine ⟨.agg (cs.take off ++ nv ++ cs.drop (off + nv.length)).toArray, ?_, by simp [Value.cells]⟩
    simp only [setEl, rep]
    exact ⟨_, rfl, reps_splice h hn⟩
  · have hne : d.cells ≠ [] := by intro e; rw [e, List.length_nil] at hfit; omega
    have hc : d.cells = [d] := by cases d <;> first | exact absurd ⟨_, rfl⟩ ha | rfl | exact absurd rfl hne
    rw [hc] at hfit
    simp only [List.length_singleton] at hfit
    have hlen1 : new.length = 1 := by omega
    have hoff : off = 0 := by omega
    subst hoff
    obtain ⟨d0, rfl⟩ := List.length_eq_one_iff.1 hlen1
    simp only [reps] at hn
    obtain ⟨u, us, rfl, hd0, rfl⟩ := hn
    refine ⟨u, ?_, ?_⟩
    · cases d <;> first | exact absurd ⟨_, rfl⟩ ha | exact hd0
    · have hu : u.cells = #[u] := by
        simp only [List.all_cons, List.all_nil, Bool.and_true] at h1
        cases u <;> first | rfl | simp [Value.oneCell'] at h1
      have hs := cells_size h hne
      rw [hc] at hs
      have hv : v.cells.toList.length = 1 := by simpa using hs
      rw [hu]
      simp only [List.take_zero, List.nil_append, List.length_singleton, Nat.zero_add]
      rw [List.drop_of_length_le (by omega)]
      simp

theorem nth_get {l : List D} {i : Nat} (h : i < l.length) : nth l i = l[i] := by
  unfold nth; simp [h]
theorem setN_length {l : List D} {i : Nat} {d : D} : (setN l i d).length = l.length := by
  unfold setN; simp
theorem setN_get {l : List D} {i j : Nat} {d : D} (h : j < (setN l i d).length) : (setN l i d)[j] = if i = j then d else l[j]'(by rwa [setN_length] at h) := by
  unfold setN at h ⊢
  simp [List.getElem_set]

/-- one of read elements, some of whose cells are written -/
theorem elems_store {C C' : Cx} {items : List D} {b s i off : Nat} {cs : Array Value} {T : TypeId} {new : List D} {nv : List Value} (hle : C.Le C') (hel : elems C items b 0 s) (hblk : C.w.heap[b]? = some (.cells cs T (0, 0))) (hi : i < items.length)
    (hn : reps C' new nv) (hfit : off + new.length ≤ (nth items i).cells.length) (h0 : new ≠ []) (h1 : nv.all (·.oneCell') = true)
    (hblk' : C'.w.heap[b]? = some (.cells (cs.toList.take (i * s + off) ++ nv ++ cs.toList.drop (i * s + off + nv.length)).toArray T (0, 0))) :
    elems C' (setN items i (setEl (nth items i) off new)) b 0 s := by
  rw [elems_iff] at hel ⊢
  intro j hj
  rw [setN_get hj]
  rw [setN_length] at hj
  have hl := reps_length _ _ hn
  obtain ⟨vi, gi1, gi2, gi3, gi4⟩ := hel i hi
  have hdl : (nth items i).cells ≠ [] := by intro e; rw [e, List.length_nil] at hfit; have := List.length_pos_iff.2 h0; omega
  have hsz := cells_size (by rw [nth_get hi]; exact gi1 : rep C (nth items i) vi) hdl
  by_cases e : i = j
  · subst e
    simp only [if_true]
    obtain ⟨v', k1, k2⟩ := setEl_rep (C := C') (rep_le hle _ _ (by rw [nth_get hi]; exact gi1 : rep C (nth items i) vi)) hn hfit h0 h1
    refine ⟨v', k1, ?_, ?_, ?_⟩
    · rw [← Array.length_toList, k2]
      simp; omega
    · rw [k2]
      simp only [List.all_append, h1, Bool.and_true, Bool.and_eq_true]
      exact ⟨List.all_eq_true.2 fun z hz => List.all_eq_true.1 gi3 z (List.mem_of_mem_take hz), List.all_eq_true.2 fun z hz => List.all_eq_true.1 gi3 z (List.mem_of_mem_drop hz)⟩
    · rw [rangeAt_cells hblk'] 
      rw [rangeAt_cells hblk] at gi4
      intro k u hk
      rw [k2] at hk
      have hcsz : ∀ k, k < s → i * s + k < cs.size := by
        intro k hk
        have := gi4 k _ (List.getElem?_eq_getElem (by simp; omega))
        simp only [Nat.zero_add] at this
        exact (Array.getElem?_eq_some_iff.1 this).1
      have hlast := hcsz (off + nv.length - 1) (by have := List.length_pos_iff.2 h0; omega)
      simp only [Nat.zero_add]
      rw [List.getElem?_toArray]
      rcases Nat.lt_or_ge k off with h | h
      · rw [List.append_assoc, List.getElem?_append_left (by simp; omega)] at hk
        rw [List.append_assoc, List.getElem?_append_left (by simp; omega)]
        rw [List.getElem?_take] at hk ⊢
        simp only [h, if_true] at hk
        simp only [show i * s + k < i * s + off by omega, if_true]
        have := gi4 k u hk
        simpa using this
      · rcases Nat.lt_or_ge k (off + nv.length) with h' | h'
        · rw [List.append_assoc, List.getElem?_append_right (by simp; omega), List.getElem?_append_left (by simp; omega)] at hk
          rw [List.append_assoc, List.getElem?_append_right (by simp; omega), List.getElem?_append_left (by simp; omega)]
          rw [← hk]
          congr 1
          simp
          omega
        · rw [List.getElem?_append_right (by simp; omega)] at hk
          rw [List.getElem?_append_right (by simp; omega)]
          rw [List.getElem?_drop] at hk ⊢
          have hl2 : (List.take off vi.cells.toList ++ nv).length = off + nv.length := by simp; omega
          have hl3 : (List.take (i * s + off) cs.toList ++ nv).length = i * s + off + nv.length := by simp; omega
          rw [hl2, show off + nv.length + (k - (off + nv.length)) = k by omega] at hk
          rw [hl3, show i * s + off + nv.length + (i * s + k - (i * s + off + nv.length)) = i * s + k by omega]
          have := gi4 k u hk
          simpa using this
  · simp only [e, if_false]
    obtain ⟨v, g1, g2, g3, g4⟩ := hel j hj
    refine ⟨v, rep_le hle _ _ g1, g2, g3, ?_⟩
    rw [rangeAt_cells hblk']
    rw [rangeAt_cells hblk] at g4
    intro k u hk
    have hks : k < s := by
      have := (List.getElem?_eq_some_iff.1 hk).1
      simp at this; omega
    have hg := g4 k u hk
    simp only [Nat.zero_add] at hg ⊢
    have hlt : j * s + k < cs.size := (Array.getElem?_eq_some_iff.1 hg).1
    have hoff : off + nv.length ≤ s := by omega
    rw [List.getElem?_toArray]
    rw [rangeAt_cells hblk] at gi4
    have hcsz : ∀ k, k < s → i * s + k < cs.size := by
      intro k hk
      have := gi4 k _ (List.getElem?_eq_getElem (by simp; omega))
      simp only [Nat.zero_add] at this
      exact (Array.getElem?_eq_some_iff.1 this).1
    have hlast := hcsz (off + nv.length - 1) (by have := List.length_pos_iff.2 h0; omega)
    rcases Nat.lt_or_gt_of_ne e with h | h
    · have : (i + 1) * s ≤ j * s := Nat.mul_le_mul_right _ h
      rw [Nat.succ_mul] at this
      have hl3 : (List.take (i * s + off) cs.toList ++ nv).length = i * s + off + nv.length := by
        have := List.length_pos_iff.2 h0
        simp; omega
      rw [List.getElem?_append_right (by rw [hl3]; omega), List.getElem?_drop, hl3, show i * s + off + nv.length + (j * s + k - (i * s + off + nv.length)) = j * s + k by omega]
      simpa using hg
    · have : (j + 1) * s ≤ i * s := Nat.mul_le_mul_right _ h
      rw [Nat.succ_mul] at this
      rw [List.append_assoc, List.getElem?_append_left (by simp; omega), List.getElem?_take]
      simp only [show j * s + k < i * s + off by omega, if_true]
      simpa using hg

section
variable {P : Program} {E : En} {n : Nat} {F : FrS} {a : Act} {w : World} {g : Gh} (hR : Rel E n F a w g)
include hR

theorem e_store_arr {o : Oper} {t : TypeId} {ti : TI} {x y : Operand} {id s i off e : Nat} {p : Bool} {items : List D} {d : D} (ho : o.op = .store t x y) (ht : tiChk P t ti = true)
    (hx : rep (cx w g F.hp) (.eptr id s i off) (a.eval x)) (hy : rep (cx w g F.hp) d (a.eval y)) (hb : F.hp id = some (.arr e s p items)) (hl : d.cells.length = ti.size) (hi : i < items.length) (hfit : off + ti.size ≤ (nth items i).cells.length) (h1 : d.cells.all oneD = true)
    (hne : ti.size ≠ 0) : Leaves P E n a o (F.eff [(id, some (.arr e s (p && (D.idsL d.cells).isEmpty) (setN items i (setEl (nth items i) off d.cells))))] (0, 0)) .undef w := by
  simp only [rep] at hx
  obtain ⟨_, hs0, b, o', hσ, he⟩ := hx
  rcases hR.mem.hd id _ hb with ⟨rfl, _⟩ | ⟨b', cs, hσ', hblk, hsz, hel⟩
  · simp at hi
  have e' := hσ'.symm.trans hσ
  simp only [Option.some.injEq, Prod.mk.injEq] at e'
  obtain ⟨rfl, rfl⟩ := e'
  have hvs : (a.eval y).cells.size = d.cells.length := cells_size hy (by intro e; rw [e] at hl; simp at hl; omega)
  have hvr := cells_reps hy hvs.symm
  have hv1 := oneD_cells hvr h1
  have hblk0 : w.heap[b']? = some (.cells cs e (0, 0)) := hblk
  obtain ⟨vi, gi1, gi2, gi3, gi4⟩ := (elems_iff _ _ _ _).1 hel i hi
  have hdne : (nth items i).cells ≠ [] := by intro e; rw [e] at hfit; simp at hfit; omega
  have hsi := cells_size (by rw [nth_get hi]; exact gi1 : rep _ (nth items i) vi) hdne
  have hfits : i * s + off + (a.eval y).cells.size ≤ cs.size := by
    have h2 : items.length * s ≤ cs.size := hsz
    have h3 : (i + 1) * s ≤ items.length * s := Nat.mul_le_mul_right _ hi
    rw [Nat.succ_mul] at h3
    omega
  have hst : (storeVar t ⟨b', 0 + i * s + off, none⟩ (a.eval y)).run P w = .ok () (w.setRow b' (cs.toList.take (i * s + off) ++ (a.eval y).cells.toList ++ cs.toList.drop (i * s + off + (a.eval y).cells.size)).toArray) := by
    have := storeVar_run (P := P) (v := a.eval y) (off := i * s + off) ht (by omega) hblk0 (by omega) hv1
    rw [Nat.zero_add]; exact this
  have hszz : (cs.toList.take (i * s + off) ++ (a.eval y).cells.toList ++ cs.toList.drop (i * s + off + (a.eval y).cells.size)).toArray.size = cs.size := by simp; omega
  refine ⟨undef, _, g, .inr ⟨?_, rfl⟩, by simp only [rep], Rel.wrote hR (by rw [hb]; simp) hσ' (setRow_keep w b' cs _ e _ hblk0 hszz) ?_⟩
  · unfold execOp
    simp only [ho, he, Instr.storeAt, Instr.sureAddr, pure_bind, Sem.run_bind, hst, Result.andThen_ok, Sem.run_pure]
  · intro C hC hle hrf hσC
    have hblkC : C.w.heap[b']? = some (.cells (cs.toList.take (i * s + off) ++ (a.eval y).cells.toList ++ cs.toList.drop (i * s + off + (a.eval y).cells.size)).toArray e (0, 0)) := by subst hC; exact setRow_heap w b' cs _ e _ hblk0
    refine .inr ⟨b', _, hσC, hblkC, ?_, ?_⟩
    · rw [hszz, setN_length]; exact hsz
    · refine elems_store (le_rf hle rfl _ _ (by cases p <;> simp)) hel hblk hi (nv := (a.eval y).cells.toList) ?_ (by omega) (by intro e; rw [e] at hl; simp at hl; omega) hv1 (by simpa using hblkC)
      cases hids : (p && (D.idsL d.cells).isEmpty)
      · simpa [← hrf] using reps_le hle _ _ hvr
      · simp only [Bool.and_eq_true, List.isEmpty_iff] at hids
        exact reps_noids _ _ hids.2 (reps_le hle _ _ hvr)
end
end Go.Tm

/- Operations with an effect: maps. -/
import Derived.Test.YtinlknpgmelicaaTmEff3
namespace Go.Tm
open Go.RowKit Go.WideShapes

theorem elems_flatten {C : Cx} (s : Nat) : ∀ (ds : List D) (vs : List Value) (b o : Nat), reps C ds vs → (∀ v ∈ vs, v.cells.size = s) → (∀ v ∈ vs, v.cells.toList.all (·.oneCell') = true) →
    C.w.rangeAt b o (vs.map (·.cells.toList)).flatten → elems C ds b o s
  | [], vs, b, o, _, _, _, _ => by simp only [elems]
  | d :: ds, vs, b, o, h, hs, h1, hr => by
    simp only [reps] at h
    obtain ⟨v, vs', rfl, hd, h⟩ := h
    simp only [List.map_cons, List.flatten_cons] at hr
    have hv := hs v (by simp)
    simp only [elems]
    refine ⟨⟨v, hd, hv, h1 v (by simp), fun j u hj => hr j u ?_⟩, elems_flatten s ds vs' b (o + s) h (fun u hu => hs u (by simp [hu])) (fun u hu => h1 u (by simp [hu])) fun j u hj => ?_⟩
    · rw [List.getElem?_append_left (List.getElem?_eq_some_iff.1 hj).1]; exact hj
    · have := hr (s + j) u (by rw [List.getElem?_append_right (by simp [hv])]; simpa [hv] using hj)
      rwa [show o + (s + j) = o + s + j by omega] at this

theorem flatten_len (s : Nat) : ∀ (vs : List Value), (∀ v ∈ vs, v.cells.size = s) → ((vs.map (·.cells.toList)).flatten).length = vs.length * s
  | [], _ => by simp
  | v :: vs, h => by
    simp only [List.map_cons, List.flatten_cons, List.length_append, flatten_len s vs (fun u hu => h u (by simp [hu])), Array.length_toList, h v (by simp), List.length_cons, Nat.succ_mul]
    omega

theorem carry_reps {C : Cx} {s : Nat} {ds : List D} {vs : List Value} (h : reps C ds vs) (h1 : ∀ v ∈ vs, v.cells.size = s) (h2 : ∀ v ∈ vs, v.cells.toList.all (·.oneCell') = true) : Carry C ds s (vs.map (·.cells.toList)).flatten := by
  intro w' b' o' hr C' hw hle
  exact elems_flatten s _ _ _ _ (reps_le hle _ _ h) h1 h2 (by rw [hw]; exact hr)

theorem range_zeros (zs : Array Value) : ∀ (k : Nat), ((Array.range (k * zs.size)).map fun i => zs[i % zs.size]!).toList = (List.replicate k zs.toList).flatten
  | 0 => by simp
  | k + 1 => by
    have ih := range_zeros zs k
    rw [List.replicate_succ', List.flatten_append, ← ih]
    simp only [Array.toList_map, Array.toList_range, List.flatten_cons, List.flatten_nil, List.append_nil]
    rw [Nat.succ_mul, List.range_add, List.map_append, List.map_map]
    congr 1
    apply List.ext_getElem
    · simp
    · intro i h1 h2
      simp only [List.getElem_map, List.getElem_range, Function.comp, Array.getElem_toList]
      have hi : i < zs.size := by simpa using h2
      rw [Nat.mul_comm k, Nat.mul_add_mod, Nat.mod_eq_of_lt hi]
      simp [hi]

theorem carry_zero {C : Cx} {ti : TI} {z : Value} {s : Nat} (hz : ∀ C : Cx, rep C (zeroEl ti) z) (hs : z.cells.size = s) (h1 : z.cells.toList.all (·.oneCell') = true) (k : Nat) : Carry C (List.replicate k (zeroEl ti)) s (List.replicate k z.cells.toList).flatten := by
  have hr : ∀ k, reps C (List.replicate k (zeroEl ti)) (List.replicate k z) := by
    intro k
    induction k with
    | zero => simp only [List.replicate_zero, reps]
    | succ k ih => simp only [List.replicate_succ, reps]; exact ⟨z, _, rfl, hz C, ih⟩
  have := carry_reps (s := s) (hr k) (fun v hv => by rw [List.eq_of_mem_replicate hv]; exact hs) (fun v hv => by rw [List.eq_of_mem_replicate hv]; exact h1)
  simpa using this

/-- read elements, some of which are others -/
theorem elems_mid {C C' : Cx} {items mids : List D} {b s off m : Nat} {cs : Array Value} {T : TypeId} {nv : List Value} (hle : C.Le C') (hel : elems C items b 0 s) (hblk : C.w.heap[b]? = some (.cells cs T (0, 0))) (hl : off + m ≤ items.length) (hsz : items.length * s ≤ cs.size)
    (hm : mids.length = m) (hnv : nv.length = m * s) (hmid : C'.w.rangeAt b (off * s) nv → elems C' mids b (off * s) s)
    (hblk' : C'.w.heap[b]? = some (.cells (cs.toList.take (off * s) ++ nv ++ cs.toList.drop (off * s + nv.length)).toArray T (0, 0))) :
    elems C' (items.take off ++ mids ++ items.drop (off + m)) b 0 s := by
  have h1 : (off + m) * s ≤ items.length * s := Nat.mul_le_mul_right _ hl
  rw [Nat.add_mul] at h1
  obtain ⟨n1, a1, a2, a3, a4⟩ := elems_flat _ _ _ _ (elems_take _ off _ _ _ hel)
  obtain ⟨n3, c1, c2, c3, c4⟩ := elems_flat _ _ _ _ (elems_drop _ (off + m) _ _ _ hel)
  have l1 : (items.take off).length = off := by simp; omega
  have l3 : (items.drop (off + m)).length = items.length - (off + m) := by simp
  rw [l1] at a1
  rw [l3, Nat.sub_mul, Nat.add_mul] at c1
  rw [rangeAt_cells hblk] at a2 c2
  refine elems_append _ _ _ _ _ (elems_append _ _ _ _ _ (a4 _ _ _ ?_ C' rfl hle) ?_) (c4 _ _ _ ?_ C' rfl hle)
  · rw [rangeAt_cells hblk']
    intro j v hj
    have hlt := (List.getElem?_eq_some_iff.1 hj).1
    have := a2 j v hj
    rw [List.getElem?_toArray, List.append_assoc, List.getElem?_append_left (by simp; omega), List.getElem?_take]
    simp only [show 0 + j < off * s by omega, if_true]
    simpa using this
  · rw [l1, Nat.zero_add]
    refine hmid ?_
    rw [rangeAt_cells hblk']
    intro j v hj
    have hlt := (List.getElem?_eq_some_iff.1 hj).1
    rw [List.getElem?_toArray, List.append_assoc, List.getElem?_append_right (by simp; omega), List.getElem?_append_left (by simp; omega), ← hj]
    congr 1
    simp
    omega
  · have : 0 + (items.take off ++ mids).length * s = 0 + (off + m) * s := by rw [List.length_append, l1, hm]
    rw [this, rangeAt_cells hblk']
    intro j v hj
    have hlt := (List.getElem?_eq_some_iff.1 hj).1
    have := c2 j v hj
    have l4 : (cs.toList.take (off * s) ++ nv).length = off * s + nv.length := by simp; omega
    rw [List.getElem?_toArray, List.getElem?_append_right (by rw [l4, hnv, Nat.add_mul]; omega), List.getElem?_drop, l4, hnv, Nat.add_mul]
    rw [Nat.add_mul] at this
    rw [show off * s + m * s + (0 + (off * s + m * s) + j - (off * s + m * s)) = 0 + (off * s + m * s) + j by omega]
    simpa using this

section
variable {P : Program} {E : En} {n : Nat} {F : FrS} {a : Act} {w : World} {g : Gh} (hR : Rel E n F a w g)
include hR

omit hR in
theorem idxOk_map : ∀ (l : List (Nat × Operand)) (k n : Nat), idxOk k n l = true → k + l.length = n ∧ l.map (·.1) = List.range' k l.length
  | [], k, n, h => by simp only [idxOk] at h; exact ⟨Nat.eq_of_beq_eq_true h, rfl⟩
  | (i, x) :: r, k, n, h => by
    simp only [idxOk, Bool.and_eq_true] at h
    obtain ⟨h1, h2⟩ := idxOk_map r (k + 1) n h.2
    have := Nat.eq_of_beq_eq_true h.1
    subst this
    refine ⟨by simp; omega, by simp [List.range'_succ, h2]⟩

omit hR in
theorem fill_flat (s : Nat) : ∀ (vs : List Value) (k : Nat) (cs : Array Value), (∀ v ∈ vs, v.cells.size = s) → (k + vs.length) * s ≤ cs.size →
    ∃ cs', Instr.fill (fun i => some (i * s, s)) cs ((List.range' k vs.length).zip vs) = some cs' ∧ cs'.toList = cs.toList.take (k * s) ++ (vs.map (·.cells.toList)).flatten ++ cs.toList.drop ((k + vs.length) * s)
  | [], k, cs, _, _ => ⟨cs, rfl, by simp⟩
  | v :: vs, k, cs, hs, hl => by
    have hv := hs v (by simp)
    simp only [List.length_cons] at hl
    have h1 : (k + 1) * s ≤ cs.size := Nat.le_trans (Nat.mul_le_mul_right _ (by omega)) hl
    have hz : v.cells.zipIdx = (v.cells.toList.zipIdx 0).toArray := by apply Array.ext'; simp
    have hfold := foldl_set v.cells.toList 0 (k * s) cs (by simp [hv]; rw [Nat.succ_mul] at h1; omega)
    obtain ⟨cs', hf, hc⟩ := fill_flat s vs (k + 1) ((v.cells.zipIdx.foldl (fun cs (c, j) => cs.setIfInBounds (k * s + j) c) cs)) (fun u hu => hs u (by simp [hu])) (by
      have : (v.cells.zipIdx.foldl (fun cs (c, j) => cs.setIfInBounds (k * s + j) c) cs).size = cs.size := by
        rw [← Array.length_toList, hz]
        simp only [List.foldl_toArray', List.size_toArray] at hfold ⊢
        rw [hfold]
        simp [hv]; rw [Nat.succ_mul] at h1; omega
      rw [this]; rwa [show k + 1 + vs.length = k + (vs.length + 1) by omega])
    refine ⟨cs', ?_, ?_⟩
    · simp only [List.length_cons, List.range'_succ, List.zip_cons_cons, Instr.fill]
      rw [if_neg (by simp [hv]; rw [Nat.succ_mul] at h1; omega)]
      exact hf
    · rw [hc, hz]
      simp only [List.foldl_toArray', List.size_toArray] at hfold ⊢
      rw [hfold]
      simp only [Nat.add_zero, Array.length_toList, hv, List.map_cons, List.flatten_cons, List.length_cons]
      have e1 : (k + 1) * s = k * s + s := Nat.succ_mul k s
      have l1 : (cs.toList.take (k * s)).length = k * s := by simp; omega
      have l2 : v.cells.toList.length = s := by simpa using hv
      have t1 : (cs.toList.take (k * s) ++ v.cells.toList ++ cs.toList.drop (k * s + s)).take ((k + 1) * s) = cs.toList.take (k * s) ++ v.cells.toList := by
        rw [List.take_append_of_le_length (by simp; omega), List.take_of_length_le (by simp; omega)]
      have t2 : (cs.toList.take (k * s) ++ v.cells.toList ++ cs.toList.drop (k * s + s)).drop ((k + 1 + vs.length) * s) = cs.toList.drop ((k + (vs.length + 1)) * s) := by
        have e2 : (k + 1 + vs.length) * s = (k * s + s) + vs.length * s := by rw [Nat.add_mul, e1]
        have dd : ∀ (l : List Value) (p q : Nat), l.drop (p + q) = (l.drop p).drop q := fun l p q => by rw [List.drop_drop]
        have l3 : (cs.toList.take (k * s) ++ v.cells.toList).length = k * s + s := by rw [List.length_append, l1, l2]
        rw [e2, dd, List.drop_append_of_le_length (Nat.le_of_eq l3.symm), List.drop_of_length_le (Nat.le_of_eq l3), List.nil_append, List.drop_drop]
        congr 1
        rw [show k + (vs.length + 1) = k + 1 + vs.length by omega, Nat.add_mul, e1]
      rw [t1, t2]
      simp

omit hR in
theorem reps_parts {C : Cx} {s : Nat} (hs : s ≠ 0) : ∀ (ds : List D) (vs : List Value), reps C ds vs → (ds.all fun d => Nat.beq d.cells.length s && d.cells.all oneD) = true → (∀ v ∈ vs, v.cells.size = s) ∧ ∀ v ∈ vs, v.cells.toList.all (·.oneCell') = true := by
  intro ds
  induction ds with
  | nil => intro vs h _; simp only [reps] at h; subst h; simp
  | cons d ds ih =>
    intro vs h ha
    simp only [reps] at h
    obtain ⟨v, vs', rfl, hd, h⟩ := h
    simp only [List.all_cons, Bool.and_eq_true] at ha
    obtain ⟨g1, g2⟩ := ih vs' h ha.2
    have hdl := Nat.eq_of_beq_eq_true ha.1.1
    have hne : d.cells ≠ [] := fun e => by rw [e] at hdl; simp at hdl; omega
    have hsz := cells_size hd hne
    refine ⟨?_, ?_⟩ <;> intro u hu <;> rcases List.mem_cons.1 hu with rfl | hu
    · rw [hsz, hdl]
    · exact g1 u hu
    · exact oneD_cells (cells_reps hd hsz.symm) ha.1.2
    · exact g2 u hu

omit hR in
theorem run_buildSlice {t : TypeId} {ti : TI} {len : Nat} {ps : Array (Nat × Operand)} (ht : tiChk P t ti = true) (hk : ti.kind = 3) (hi : idxOk 0 len ps.toList = true) (hb : len * ti.esz ≤ 16777216)
    (h1 : ∀ v ∈ (ps.toList.map fun x => a.eval x.2), v.cells.size = ti.esz) :
    (Instr.buildSlice t len (ps.map fun (i, x) => (i, a.eval x))).run P w = .ok (.slice (some ⟨w.heap.size, 0, none⟩) len len) (w.alloc (.cells ((ps.toList.map fun x => a.eval x.2).map (·.cells.toList)).flatten.toArray ti.el)) := by
  obtain ⟨e, j, hu, hj, hj1, hj2, hj3, hj4, ⟨z, hz, hzs, _⟩, hel⟩ := ti_slice ht hk
  subst hel
  obtain ⟨hl, hm⟩ := idxOk_map _ _ _ hi
  simp only [Nat.zero_add] at hl
  have hz0 : ∀ (m : Nat), ((Array.range m).map (z.cells[· % z.cells.size]!)).size = m := by intro m; simp
  have hpar : (ps.map fun (i, x) => (i, a.eval x)).toList = (List.range' 0 (ps.toList.map fun x => a.eval x.2).length).zip (ps.toList.map fun x => a.eval x.2) := by
    have zz : ∀ (l : List (Nat × Operand)), (l.map fun x => (x.1, a.eval x.2)) = (l.map (·.1)).zip (l.map fun x => a.eval x.2) := by
      intro l
      induction l with
      | nil => rfl
      | cons x l ih => simp only [List.map_cons, List.zip_cons_cons, ih]
    have := zz ps.toList
    rw [hm] at this
    simp only [Array.toList_map, List.length_map]
    exact this
  obtain ⟨cs', hf, hcs⟩ := fill_flat ti.esz (ps.toList.map fun x => a.eval x.2) 0 ((Array.range (len * ti.esz)).map (z.cells[· % z.cells.size]!)) h1 (by rw [hz0]; simp [hl])
  have hcs2 : cs' = ((ps.toList.map fun x => a.eval x.2).map (·.cells.toList)).flatten.toArray := by
    apply Array.ext'
    rw [hcs]
    have : ((Array.range (len * ti.esz)).map (z.cells[· % z.cells.size]!)).toList.drop ((0 + (ps.toList.map fun x => a.eval x.2).length) * ti.esz) = [] := by
      apply List.drop_of_length_le
      simp [hl]
    rw [this]
    simp
  rw [← hcs2]
  have hsz : (sizeOf ti.el).run P w = .ok ti.esz w := by simp [sizeOf, typeInfo, hj, hj1]
  by_cases h0 : len * ti.esz = 0
  · have hl0 : len = 0 := (Nat.mul_eq_zero.1 h0).resolve_right (by omega)
    subst hl0
    have hps : ps = #[] := by apply Array.ext'; exact List.eq_nil_of_length_eq_zero hl
    subst hps
    simp only [Nat.zero_mul, Array.range_zero', Array.map_empty, List.map_nil, List.length_nil, List.range'_zero, List.zip_nil_left, Instr.fill, Option.some.injEq] at hf
    subst hf
    simp [Instr.buildSlice, run_underlying hu, hsz, Instr.fill, newRow, Array.range_zero']
  · simp only [Instr.buildSlice, Sem.run_bind, run_underlying hu, Result.andThen_ok, hsz]
    rw [if_neg (by omega), if_neg h0]
    simp only [zeroValue, typeInfo, Sem.run_bind, run_program, Result.andThen_ok, hj, hz, Sem.run_pure, hpar, hf]
    simp [newRow]

theorem e_buildOwn {o : Oper} {t : TypeId} {ti : TI} {len : Nat} {ps : Array (Nat × Operand)} {ds : List D} {id : Nat} (hn : F.nu id = true) (ho : o.op = .buildSlice t len ps) (ht : tiChk P t ti = true) (hk : ti.kind = 3)
    (hr : reps (cx w g F.hp) ds (ps.toList.map fun x => a.eval x.2)) (hi : idxOk 0 len ps.toList = true) (hb : len * ti.esz ≤ 16777216)
    (hall : (ds.all fun d => Nat.beq d.cells.length ti.esz && d.cells.all oneD) = true) : Leaves P E n a o (F.eff [(id, some (.arr ti.el ti.esz (D.idsL ds).isEmpty ds))] (id, id + 1)) (.ref id ti.esz 0 ds.length (some ds.length)) w := by
  obtain ⟨e, j, hu, hj, hj1, hj2, hj3, hj4, _⟩ := ti_slice ht hk
  obtain ⟨h1, h2⟩ := reps_parts (by omega) _ _ hr hall
  have hlen := reps_length _ _ hr
  simp only [List.length_map] at hlen
  obtain ⟨hl, _⟩ := idxOk_map _ _ _ hi
  have hll : len = ds.length := by omega
  subst hll
  have hrun := run_buildSlice (w := w) ht hk hi hb h1
  refine leaves_row hR (e := ti.el) (kl := none) (oc := some ds.length) (ncap := ds.length) (rest := []) (cells := ((ps.toList.map fun x => a.eval x.2).map (·.cells.toList)).flatten) (w1 := w) hn (Keep.refl _ w) rfl ?_ ?_ (Nat.le_refl _) ?_ (fun c h => by cases h; rfl) ?_
  · unfold execOp; simp only [ho]; simp only [Sem.run_bind, hrun, Result.andThen_ok, Sem.run_pure, List.append_nil]
  · rw [flatten_len _ _ h1, List.length_nil, Nat.add_zero, List.length_map]; congr 1
  · have : ds.length * 1 ≤ ds.length * ti.esz := Nat.mul_le_mul_left _ (by omega)
    omega
  · cases hids : (D.idsL ds).isEmpty
    · exact carry_reps hr h1 h2
    · exact carry_reps (reps_noids _ _ (List.isEmpty_iff.1 hids) hr) h1 h2

theorem e_buildImm {o : Oper} {t : TypeId} {ti : TI} {len : Nat} {ps : Array (Nat × Operand)} {ds : List D} (ho : o.op = .buildSlice t len ps) (ht : tiChk P t ti = true) (hk : ti.kind = 3)
    (hr : reps (cx w g F.hp) ds (ps.toList.map fun x => a.eval x.2)) (hi : idxOk 0 len ps.toList = true) (hb : len * ti.esz ≤ 16777216) (hids : (D.idsL ds).isEmpty = true)
    (hall : (ds.all fun d => Nat.beq d.cells.length ti.esz && d.cells.all oneD) = true) (hlow : okML low3 ds = true) : Leaves P E n a o (F.eff [] (0, 0)) (.imm ti.esz (unfL ds) (bif okML new1 ds then 9 else 1)) w := by
  obtain ⟨e, j, hu, hj, hj1, hj2, hj3, hj4, _⟩ := ti_slice ht hk
  obtain ⟨h1, h2⟩ := reps_parts (by omega) _ _ hr hall
  have hlen := reps_length _ _ hr
  simp only [List.length_map] at hlen
  obtain ⟨hl, _⟩ := idxOk_map _ _ _ hi
  have hll : len = ds.length := by omega
  subst hll
  have hrun := run_buildSlice (w := w) ht hk hi hb h1
  have hids := List.isEmpty_iff.1 hids
  have hK : Keep (fun _ => False) w (w.alloc (.cells ((ps.toList.map fun x => a.eval x.2).map (·.cells.toList)).flatten.toArray ti.el)) := Keep.alloc _ _ _
  have hle := Rel.ext_le (g := g) (F := F) hK
  have hblk : (w.alloc (.cells ((ps.toList.map fun x => a.eval x.2).map (·.cells.toList)).flatten.toArray ti.el)).heap[w.heap.size]? = some (.cells ((ps.toList.map fun x => a.eval x.2).map (·.cells.toList)).flatten.toArray ti.el (0, 0)) := heap_alloc_new w _
  rw [eff_none]
  refine ⟨_, _, g, .inl (by unfold execOp; simp only [ho]; simp only [Sem.run_bind, hrun, Result.andThen_ok, Sem.run_pure]; rfl), ?_, Rel.ext hR hK⟩
  have hnM : ¬ (cx (w.alloc (.cells ((ps.toList.map fun x => a.eval x.2).map (·.cells.toList)).flatten.toArray ti.el)) g F.hp).M w.heap.size := by
    intro h
    have := hR.mem.own_lt h
    omega
  have hrange := rangeAt_prefix hblk [] ((ps.toList.map fun x => a.eval x.2).map (·.cells.toList)).flatten [] (by simp) rfl
  have hul := unfL_length ds
  have hcc : (bif okML new1 ds then 9 else 1) % 8 = 1 := by cases okML new1 ds <;> rfl
  have key : ∀ (q : Nat → Bool) (Zt : Nat → Prop), (∀ m, q m = true → ∃ Z, (cx w g F.hp).zone m = some Z ∧ ∀ b, ¬ (cx w g F.hp).M b → Z b → b < (cx w g F.hp).w.heap.size → Zt b) → okML q ds = true →
      elems ((cx (w.alloc (.cells ((ps.toList.map fun x => a.eval x.2).map (·.cells.toList)).flatten.toArray ti.el)) g F.hp).at Zt) (unfL ds) w.heap.size 0 ti.esz := by
    intro q Zt hq hk
    have := reps_unfZ hq ds _ hk hids hr
    refine carry_reps this h1 h2 _ _ _ hrange _ rfl ?_
    exact Cx.Le.inner (C := cx w g F.hp) (C' := cx _ g F.hp) hK.shp fun b g1 g2 g3 => ⟨g1, g2, hK.block b g3 id⟩
  simp only [rep, hcc]
  refine ⟨_, _, by rw [hul], by rw [hul]; exact Nat.le_refl _, ?_, by simp, by simp, fun _ => by rw [hul], by simp, fun _ => rfl, ?_⟩
  · have : ds.length * 1 ≤ ds.length * ti.esz := Nat.mul_le_mul_left _ (by omega)
    omega
  · right
    intro Z' hZ'
    refine ⟨_, rfl, rfl, hnM, ?_, by simp [cx], ?_⟩
    · cases hb : okML new1 ds
      · rw [hb] at hZ'
        have : Z' = g.Z := by simpa [Cx.zone, cx] using hZ'.symm
        subst this
        exact hR.mem.zs.z0 _ (Nat.le_refl _)
      · rw [hb] at hZ'
        obtain ⟨Z1, k1, k2, k3⟩ := hR.mem.zs.z1
        have : Z' = Z1 := by
          have : g.zn 1 = some Z' := by simpa [Cx.zone, cx] using hZ'
          rw [k1] at this
          exact (Option.some.inj this).symm
        subst this
        exact k3 _ (Nat.le_refl _)
    · cases hb : okML new1 ds
      · rw [hb] at hZ'
        have : Z' = g.Z := by simpa [Cx.zone, cx] using hZ'.symm
        subst this
        exact key low3 g.Z hR.mem.low hlow
      · rw [hb] at hZ'
        obtain ⟨Z1, k1, k2, k3⟩ := hR.mem.zs.z1
        have : Z' = Z1 := by
          have : g.zn 1 = some Z' := by simpa [Cx.zone, cx] using hZ'
          rw [k1] at this
          exact (Option.some.inj this).symm
        subst this
        refine key new1 Z' ?_ hb
        intro m hm
        have hm : m = 1 := Nat.eq_of_beq_eq_true hm
        subst hm
        exact ⟨Z', k1, fun b _ h _ => h⟩

omit hR in
theorem Rel.wrote_le {w' : World} {id : Nat} {blk : Blk} {b o : Nat} (hl : F.hp id ≠ none) (hs : g.σ id = some (b, o)) (hK : Keep (fun k => k = b) w w') : Cx.Le (cx w g F.hp) (cx w' g (effH F.hp [(id, some blk)])) := by
  have hp1 : ∀ x, x ≠ id → effH F.hp [(id, some blk)] x = F.hp x := by
    intro x hx
    have hb : Nat.beq id x = false := beq_ne (fun e => hx e.symm)
    simp [effH, getL, hb]
  have hne : ∀ x, effH F.hp [(id, some blk)] x ≠ none → F.hp x ≠ none := by
    intro x h
    by_cases e : x = id
    · subst e; exact hl
    · rwa [hp1 x e] at h
  have hK' : Keep (blkOf g F.hp fun k => k = id) w w' := hK.mono fun k _ e => by subst e; exact ⟨id, o, rfl, hl, hs⟩
  refine Mem.le (g' := g) hK' rfl rfl (fun _ _ => rfl) ?_
  rintro b ⟨x, o', h1, h2⟩
  exact .inr ⟨x, o', hne x h1, h2⟩

/-- an own array, some of whose elements are written -/
theorem leaves_mid' {o : Oper} {d : D} {v : Value} {id e s off m b : Nat} {p q : Bool} {items mids : List D} {cs : Array Value} {nv : List Value} (hb : F.hp id = some (.arr e s p items)) (hσ : g.σ id = some (b, 0)) (hblk : w.heap[b]? = some (.cells cs e (0, 0)))
    (hsz : items.length * s ≤ cs.size) (hel : elems { cx w g F.hp with rf := !p } items b 0 s) (hl : off + m ≤ items.length) (hm : mids.length = m) (hnv : nv.length = m * s) (h1 : nv.all (·.oneCell') = true) (hmid : Carry { cx w g F.hp with rf := !q } mids s nv)
    (hrun : ∀ w', (storeCells ⟨b, off * s, none⟩ nv).run P w = .ok () w' → (execOp a.eval o).run P w = .ok (.value v) w') (hd : ∀ C, Cx.Le (cx w g F.hp) C → rep C d v) :
    Leaves P E n a o (F.eff [(id, some (.arr e s (p && q) (items.take off ++ mids ++ items.drop (off + m))))] (0, 0)) d w := by
  have hfit : off * s + nv.length ≤ cs.size := by
    rw [hnv, ← Nat.add_mul]; exact Nat.le_trans (Nat.mul_le_mul_right _ hl) hsz
  have hst := run_storeCells_at P b (off * s) e nv 0 cs w hblk (by simpa using hfit) (List.all_eq_true.1 h1)
  simp only [Nat.add_zero] at hst
  have hszz : (cs.toList.take (off * s) ++ nv ++ cs.toList.drop (off * s + nv.length)).toArray.size = cs.size := by simp; omega
  refine ⟨v, _, g, .inl (hrun _ hst), hd _ (Rel.wrote_le (by rw [hb]; simp) hσ (setRow_keep w b cs _ e _ hblk hszz)), Rel.wrote hR (by rw [hb]; simp) hσ (setRow_keep w b cs _ e _ hblk hszz) ?_⟩
  intro C hC hle hrf hσC
  have hblkC : C.w.heap[b]? = some (.cells (cs.toList.take (off * s) ++ nv ++ cs.toList.drop (off * s + nv.length)).toArray e (0, 0)) := by subst hC; exact setRow_heap w b cs _ e _ hblk
  refine .inr ⟨b, _, hσC, hblkC, ?_, ?_⟩
  · rw [hszz]
    have : (items.take off ++ mids ++ items.drop (off + m)).length = items.length := by simp; omega
    rw [this]; exact hsz
  · refine elems_mid (le_rf hle rfl _ _ (by cases p <;> cases q <;> simp)) hel hblk hl hsz hm hnv ?_ hblkC
    intro hr
    exact hmid _ _ _ hr _ rfl (le_rf hle rfl _ _ (by cases p <;> cases q <;> simp))

theorem leaves_mid {o : Oper} {d : D} {v : Value} {id e s off m b : Nat} {p q : Bool} {items mids : List D} {cs : Array Value} {nv : List Value} (hb : F.hp id = some (.arr e s p items)) (hσ : g.σ id = some (b, 0)) (hblk : w.heap[b]? = some (.cells cs e (0, 0)))
    (hsz : items.length * s ≤ cs.size) (hel : elems { cx w g F.hp with rf := !p } items b 0 s) (hl : off + m ≤ items.length) (hm : mids.length = m) (hnv : nv.length = m * s) (h1 : nv.all (·.oneCell') = true) (hmid : Carry { cx w g F.hp with rf := !q } mids s nv)
    (hrun : ∀ w', (storeCells ⟨b, off * s, none⟩ nv).run P w = .ok () w' → (execOp a.eval o).run P w = .ok (.value v) w') (hd : ∀ C, rep C d v) :
    Leaves P E n a o (F.eff [(id, some (.arr e s (p && q) (items.take off ++ mids ++ items.drop (off + m))))] (0, 0)) d w :=
  leaves_mid' hR hb hσ hblk hsz hel hl hm hnv h1 hmid hrun fun C _ => hd C
end
end Go.Tm

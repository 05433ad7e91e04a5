/- Texts of the proof. -/
import Derived.DeepKeys
import Derived.DeepKeys3
import Derived.Laws.StructEq
import Derived.Laws.BytesString
import Derived.Lib.AppendZerosOnto
import Derived.Test.YtafdfmkjjhimaaaGreatDoorGroupPutsCardPb
namespace Go.Tm
set_option linter.unusedSimpArgs false
open Go.RowKit Go.WideShapes
theorem zom {C : Cx} (s : Nat) : ∀ (ds : List D) (vs : List Value) (b o : Nat), reps C ds vs -> (∀ v ∈ vs, v.cells.size = s) -> (∀ v ∈ vs, v.cells.toList.all (·.oneCell') = true) ->
  C.w.rangeAt b o (vs.map (·.cells.toList)).flatten -> elems C ds b o s
 | [], vs, b, o, _, _, _, _ => by simp only [elems]
 | d :: ds, vs, b, o, h, hs, h1, hr => by
  simp only [reps] at h
  obtain ⟨v, vs', rfl, hd, h⟩ := h
  simp only [zah, List.flatten_cons] at hr
  have hv := hs v (by simp)
  simp only [elems]
  refine ⟨⟨v, hd, hv, h1 v (by simp), fun j u hj => hr j u ?_⟩, zom s ds vs' b (o + s) h (fun u hu => hs u (by simp [hu])) (fun u hu => h1 u (by simp [hu])) fun j u hj => ?_⟩
  rw [List.getElem?_append_left (List.getElem?_eq_some_iff.1 hj).1]; exact hj
  have := hr (s + j) u (by rw [List.getElem?_append_right (by simp [hv])]; simpa [hv] using hj)
  rwa [show o + (s + j) = o + s + j by omega] at this
theorem zs4 (s : Nat) : ∀ (vs : List Value), (∀ v ∈ vs, v.cells.size = s) -> ((vs.map (·.cells.toList)).flatten).length = vs.length * s
 | [], _ => by simp
 | v :: vs, h => by
  simp only [zah, List.flatten_cons, zae, zs4 s vs (fun u hu => h u (by simp [hu])), Array.length_toList, h v (by simp), za5, Nat.succ_mul]
  omega
theorem zn2 {C : Cx} {s : Nat} {ds : List D} {vs : List Value} (h : reps C ds vs) (h1 : ∀ v ∈ vs, v.cells.size = s) (h2 : ∀ v ∈ vs, v.cells.toList.all (·.oneCell') = true) : Carry C ds s (vs.map (·.cells.toList)).flatten := by
 intro w' b' o' hr C' hw hle
 exact zom s _ _ _ _ (zgv hle _ _ h) h1 h2 (by rw [hw]; exact hr)
theorem zla (zs : Array Value) : ∀ (k : Nat), ((Array.range (k * zs.size)).map fun i => zs[i % zs.size]!).toList = (List.replicate k zs.toList).flatten
 | 0 => by simp
 | k + 1 => by
  have ih := zla zs k
  rw [List.replicate_succ', List.flatten_append, <- ih]
  simp only [Array.toList_map, Array.toList_range, List.flatten_cons, List.flatten_nil, zag]
  rw [Nat.succ_mul, List.range_add, List.map_append, List.map_map]
  congr 1
  apply List.ext_getElem
  simp
  intro i h1 h2
  simp only [List.getElem_map, List.getElem_range, Function.comp, Array.getElem_toList]
  have hi : i < zs.size := by simpa using h2
  rw [Nat.mul_comm k, Nat.mul_add_mod, Nat.mod_eq_of_lt hi]
  simp [hi]
theorem zpk {C : Cx} {ti : TI} {z : Value} {s : Nat} (hz : ∀ C : Cx, rep C (zdp ti) z) (hs : z.cells.size = s) (h1 : z.cells.toList.all (·.oneCell') = true) (k : Nat) : Carry C (List.replicate k (zdp ti)) s (List.replicate k z.cells.toList).flatten := by
 have hr : ∀ k, reps C (List.replicate k (zdp ti)) (List.replicate k z) := by
  intro k
  induction k with
  | zero => simp only [List.replicate_zero, reps]
  | succ k ih => simp only [List.replicate_succ, reps]; exact ⟨z, _, rfl, hz C, ih⟩
 have := zn2 (s := s) (hr k) (fun v hv => by rw [List.eq_of_mem_replicate hv]; exact hs) (fun v hv => by rw [List.eq_of_mem_replicate hv]; exact h1)
 simpa using this
theorem ya24 {C C' : Cx} {items mids : List D} {b s off m : Nat} {cs : Array Value} {T : TypeId} {nv : List Value} (hle : C.Le C') (hel : elems C items b 0 s) (hblk : C.w.heap[b]? = some (.cells cs T (0, 0))) (hl : off + m <= items.length) (hsz : items.length * s <= cs.size)
  (hm : mids.length = m) (hnv : nv.length = m * s) (hmid : C'.w.rangeAt b (off * s) nv -> elems C' mids b (off * s) s)
  (hblk' : C'.w.heap[b]? = some (.cells (cs.toList.take (off * s) ++ nv ++ cs.toList.drop (off * s + nv.length)).toArray T (0, 0))) :
  elems C' (items.take off ++ mids ++ items.drop (off + m)) b 0 s := by
 have h1 : (off + m) * s <= items.length * s := Nat.mul_le_mul_right _ hl
 rw [Nat.add_mul] at h1
 obtain ⟨n1, a1, a2, a3, a4⟩ := zji _ _ _ _ (zg6 _ off _ _ _ hel)
 obtain ⟨n3, c1, c2, c3, c4⟩ := zji _ _ _ _ (zhc _ (off + m) _ _ _ hel)
 have l1 : (items.take off).length = off := by simp; omega
 have l3 : (items.drop (off + m)).length = items.length - (off + m) := by simp
 rw [l1] at a1
 rw [l3, Nat.sub_mul, Nat.add_mul] at c1
 rw [zei hblk] at a2 c2
 refine zgj _ _ _ _ _ (zgj _ _ _ _ _ (a4 _ _ _ ?_ C' rfl hle) ?_) (c4 _ _ _ ?_ C' rfl hle)
 rw [zei hblk']
 intro j v hj
 have hlt := (List.getElem?_eq_some_iff.1 hj).1
 have := a2 j v hj
 rw [List.getElem?_toArray, List.append_assoc, List.getElem?_append_left (by simp; omega), List.getElem?_take]
 simp only [show 0 + j < off * s by omega, if_true]
 simpa using this
 rw [l1, Nat.zero_add]
 refine hmid ?_
 rw [zei hblk']
 intro j v hj
 have hlt := (List.getElem?_eq_some_iff.1 hj).1
 rw [List.getElem?_toArray, List.append_assoc, List.getElem?_append_right (by simp; omega), List.getElem?_append_left (by simp; omega), <- hj]
 congr 1
 simp
 omega
 have : 0 + (items.take off ++ mids).length * s = 0 + (off + m) * s := by rw [zae, l1, hm]
 rw [this, zei hblk']
 intro j v hj
 have hlt := (List.getElem?_eq_some_iff.1 hj).1
 have := c2 j v hj
 have l4 : (cs.toList.take (off * s) ++ nv).length = off * s + nv.length := by simp; omega
 rw [List.getElem?_toArray, List.getElem?_append_right (by rw [l4, hnv, Nat.add_mul]; omega), List.getElem?_drop, l4, hnv, Nat.add_mul]
 rw [Nat.add_mul] at this
 rw [show off * s + m * s + (0 + (off * s + m * s) + j - (off * s + m * s)) = 0 + (off * s + m * s) + j by omega]
 simpa using this
section
variable {P : Program} {E : En} {n : Nat} {F : FrS} {a : Act} {w : World} {g : Gh} (hR : Rel E n F a w g)
include hR
omit hR in
theorem zoi : ∀ (l : List (Nat × Operand)) (k n : Nat), zoj k n l = true -> k + l.length = n /\ l.map (·.1) = List.range' k l.length
 | [], k, n, h => by simp only [zoj] at h; exact ⟨nb h, rfl⟩
 | (i, x) :: r, k, n, h => by
  simp only [zoj, za0] at h
  obtain ⟨h1, h2⟩ := zoi r (k + 1) n h.2
  have := nb h.1
  subst this
  refine ⟨by simp; omega, by simp [List.range'_succ, h2]⟩
omit hR in
theorem zvz (s : Nat) : ∀ (vs : List Value) (k : Nat) (cs : Array Value), (∀ v ∈ vs, v.cells.size = s) -> (k + vs.length) * s <= cs.size ->
  ∃ cs', Instr.fill (fun i => some (i * s, s)) cs ((List.range' k vs.length).zip vs) = some cs' /\ cs'.toList = cs.toList.take (k * s) ++ (vs.map (·.cells.toList)).flatten ++ cs.toList.drop ((k + vs.length) * s)
 | [], k, cs, _, _ => ⟨cs, rfl, by simp⟩
 | v :: vs, k, cs, hs, hl => by
  have hv := hs v (by simp)
  simp only [za5] at hl
  have h1 : (k + 1) * s <= cs.size := zar (Nat.mul_le_mul_right _ (by omega)) hl
  have hz : v.cells.zipIdx = (v.cells.toList.zipIdx 0).toArray := by apply Array.ext'; simp
  have hfold := zs2 v.cells.toList 0 (k * s) cs (by simp [hv]; rw [Nat.succ_mul] at h1; omega)
  obtain ⟨cs', hf, hc⟩ := zvz s vs (k + 1) ((v.cells.zipIdx.foldl (fun cs (c, j) => cs.setIfInBounds (k * s + j) c) cs)) (fun u hu => hs u (by simp [hu])) (by
   have : (v.cells.zipIdx.foldl (fun cs (c, j) => cs.setIfInBounds (k * s + j) c) cs).size = cs.size := by
    rw [<- Array.length_toList, hz]
    simp only [List.foldl_toArray', List.size_toArray] at hfold ⊢
    rw [hfold]
    simp [hv]; rw [Nat.succ_mul] at h1; omega
   rw [this]; rwa [show k + 1 + vs.length = k + (vs.length + 1) by omega])
  refine ⟨cs', ?_, ?_⟩
  simp only [za5, List.range'_succ, List.zip_cons_cons, Instr.fill]
  rw [if_neg (by simp [hv]; rw [Nat.succ_mul] at h1; omega)]
  exact hf
  rw [hc, hz]
  simp only [List.foldl_toArray', List.size_toArray] at hfold ⊢
  rw [hfold]
  simp only [Nat.add_zero, Array.length_toList, hv, zah, List.flatten_cons, za5]
  have e1 : (k + 1) * s = k * s + s := Nat.succ_mul k s
  have l1 : (cs.toList.take (k * s)).length = k * s := by simp; omega
  have l2 : v.cells.toList.length = s := by simpa using hv
  have t1 : (cs.toList.take (k * s) ++ v.cells.toList ++ cs.toList.drop (k * s + s)).take ((k + 1) * s) = cs.toList.take (k * s) ++ v.cells.toList := by
   rw [List.take_append_of_le_length (by simp; omega), List.take_of_length_le (by simp; omega)]
  have t2 : (cs.toList.take (k * s) ++ v.cells.toList ++ cs.toList.drop (k * s + s)).drop ((k + 1 + vs.length) * s) = cs.toList.drop ((k + (vs.length + 1)) * s) := by
   have e2 : (k + 1 + vs.length) * s = (k * s + s) + vs.length * s := by rw [Nat.add_mul, e1]
   have dd : ∀ (l : List Value) (p q : Nat), l.drop (p + q) = (l.drop p).drop q := fun l p q => by rw [List.drop_drop]
   have l3 : (cs.toList.take (k * s) ++ v.cells.toList).length = k * s + s := by rw [zae, l1, l2]
   rw [e2, dd, List.drop_append_of_le_length (Nat.le_of_eq l3.symm), zab (Nat.le_of_eq l3), zai, List.drop_drop]
   congr 1
   rw [show k + (vs.length + 1) = k + 1 + vs.length by omega, Nat.add_mul, e1]
  rw [t1, t2]
  simp
omit hR in
theorem ztc {C : Cx} {s : Nat} (hs : s ≠ 0) : ∀ (ds : List D) (vs : List Value), reps C ds vs -> (ds.all fun d => Nat.beq d.cells.length s && d.cells.all oneD) = true -> (∀ v ∈ vs, v.cells.size = s) /\ ∀ v ∈ vs, v.cells.toList.all (·.oneCell') = true := by
 intro ds
 induction ds with
 | nil => intro vs h _; simp only [reps] at h; subst h; simp
 | cons d ds ih =>
  intro vs h ha
  simp only [reps] at h
  obtain ⟨v, vs', rfl, hd, h⟩ := h
  simp only [List.all_cons, za0] at ha
  obtain ⟨g1, g2⟩ := ih vs' h ha.2
  have hdl := nb ha.1.1
  have hne : d.cells ≠ [] := fun e => by rw [e] at hdl; simp at hdl; omega
  have hsz := zhd hd hne
  refine ⟨?_, ?_⟩ <;> intro u hu <;> rcases List.mem_cons.1 hu with rfl | hu
  rw [hsz, hdl]
  exact g1 u hu
  exact zkr (zkv hd hsz.symm) ha.1.2
  exact g2 u hu
omit hR in
theorem znc {t : TypeId} {ti : TI} {len : Nat} {ps : Array (Nat × Operand)} (ht : zd0 P t ti = true) (hk : ti.kind = 3) (hi : zoj 0 len ps.toList = true) (hb : len * ti.esz <= 16777216)
  (h1 : ∀ v ∈ (ps.toList.map fun x => a.eval x.2), v.cells.size = ti.esz) :
  (Instr.buildSlice t len (ps.map fun (i, x) => (i, a.eval x))).run P w = .ok (.slice (some ⟨w.heap.size, 0, none⟩) len len) (w.alloc (.cells ((ps.toList.map fun x => a.eval x.2).map (·.cells.toList)).flatten.toArray ti.el)) := by
 obtain ⟨e, j, hu, hj, hj1, hj2, hj3, hj4, ⟨z, hz, hzs, _⟩, hel⟩ := zcj ht hk
 subst hel
 obtain ⟨hl, hm⟩ := zoi _ _ _ hi
 simp only [Nat.zero_add] at hl
 have hz0 : ∀ (m : Nat), ((Array.range m).map (z.cells[· % z.cells.size]!)).size = m := by intro m; simp
 have hpar : (ps.map fun (i, x) => (i, a.eval x)).toList = (List.range' 0 (ps.toList.map fun x => a.eval x.2).length).zip (ps.toList.map fun x => a.eval x.2) := by
  have zz : ∀ (l : List (Nat × Operand)), (l.map fun x => (x.1, a.eval x.2)) = (l.map (·.1)).zip (l.map fun x => a.eval x.2) := by
   intro l
   induction l with
   | nil => rfl
   | cons x l ih => simp only [zah, List.zip_cons_cons, ih]
  have := zz ps.toList
  rw [hm] at this
  simp only [Array.toList_map, List.length_map]
  exact this
 obtain ⟨cs', hf, hcs⟩ := zvz ti.esz (ps.toList.map fun x => a.eval x.2) 0 ((Array.range (len * ti.esz)).map (z.cells[· % z.cells.size]!)) h1 (by rw [hz0]; simp [hl])
 have hcs2 : cs' = ((ps.toList.map fun x => a.eval x.2).map (·.cells.toList)).flatten.toArray := by
  apply Array.ext'
  rw [hcs]
  have : ((Array.range (len * ti.esz)).map (z.cells[· % z.cells.size]!)).toList.drop ((0 + (ps.toList.map fun x => a.eval x.2).length) * ti.esz) = [] := by
   apply zab
   simp [hl]
  rw [this]
  simp
 rw [<- hcs2]
 have hsz : (sizeOf ti.el).run P w = .ok ti.esz w := by simp [sizeOf, typeInfo, hj, hj1]
 by_cases h0 : len * ti.esz = 0
 have hl0 : len = 0 := (Nat.mul_eq_zero.1 h0).resolve_right (by omega)
 subst hl0
 have hps : ps = #[] := by apply Array.ext'; exact zad hl
 subst hps
 simp only [Nat.zero_mul, Array.range_zero', Array.map_empty, List.map_nil, zac, List.range'_zero, List.zip_nil_left, Instr.fill, za3] at hf
 subst hf
 simp [Instr.buildSlice, run_underlying hu, hsz, Instr.fill, newRow, Array.range_zero']
 simp only [Instr.buildSlice, Sem.run_bind, run_underlying hu, Result.andThen_ok, hsz]
 rw [if_neg (by omega), if_neg h0]
 simp only [zeroValue, typeInfo, Sem.run_bind, run_program, Result.andThen_ok, hj, hz, Sem.run_pure, hpar, hf]
 simp [newRow]
theorem zzz {o : Oper} {t : TypeId} {ti : TI} {len : Nat} {ps : Array (Nat × Operand)} {ds : List D} {id : Nat} (hn : F.nu id = true) (ho : o.op = .buildSlice t len ps) (ht : zd0 P t ti = true) (hk : ti.kind = 3)
  (hr : reps (cx w g F.hp) ds (ps.toList.map fun x => a.eval x.2)) (hi : zoj 0 len ps.toList = true) (hb : len * ti.esz <= 16777216)
  (hall : (ds.all fun d => Nat.beq d.cells.length ti.esz && d.cells.all oneD) = true) : ze2 P E n a o (F.eff [(id, some (.arr ti.el ti.esz (D.idsL ds).isEmpty ds))] (id, id + 1)) (.ref id ti.esz 0 ds.length (some ds.length)) w := by
 obtain ⟨e, j, hu, hj, hj1, hj2, hj3, hj4, _⟩ := zcj ht hk
 obtain ⟨h1, h2⟩ := ztc (by omega) _ _ hr hall
 have hlen := zdc _ _ hr
 simp only [List.length_map] at hlen
 obtain ⟨hl, _⟩ := zoi _ _ _ hi
 have hll : len = ds.length := by omega
 subst hll
 have hrun := znc (w := w) ht hk hi hb h1
 refine zmy hR (e := ti.el) (kl := none) (oc := some ds.length) (ncap := ds.length) (rest := []) (cells := ((ps.toList.map fun x => a.eval x.2).map (·.cells.toList)).flatten) (w1 := w) hn (Keep.refl _ w) rfl ?_ ?_ (za4 _) ?_ (fun c h _ => by cases h; rfl) ?_
 unfold execOp; simp only [ho]; simp only [Sem.run_bind, hrun, Result.andThen_ok, Sem.run_pure, zag]
 rw [zs4 _ _ h1, zac, Nat.add_zero, List.length_map]; congr 1
 have : ds.length * 1 <= ds.length * ti.esz := Nat.mul_le_mul_left _ (by omega)
 omega
 cases hids : (D.idsL ds).isEmpty
 exact zn2 hr h1 h2
 exact zn2 (zjh _ _ (List.isEmpty_iff.1 hids) hr) h1 h2
theorem ya00 {o : Oper} {t : TypeId} {ti : TI} {len : Nat} {ps : Array (Nat × Operand)} {ds : List D} (ho : o.op = .buildSlice t len ps) (ht : zd0 P t ti = true) (hk : ti.kind = 3)
  (hr : reps (cx w g F.hp) ds (ps.toList.map fun x => a.eval x.2)) (hi : zoj 0 len ps.toList = true) (hb : len * ti.esz <= 16777216) (hids : (D.idsL ds).isEmpty = true)
  (hall : (ds.all fun d => Nat.beq d.cells.length ti.esz && d.cells.all oneD) = true) (hlow : okML low3 ds = true) : ze2 P E n a o (F.eff [] (0, 0)) (.imm ti.esz (unfL ds) (bif okML new1 ds then 9 else 1)) w := by
 obtain ⟨e, j, hu, hj, hj1, hj2, hj3, hj4, _⟩ := zcj ht hk
 obtain ⟨h1, h2⟩ := ztc (by omega) _ _ hr hall
 have hlen := zdc _ _ hr
 simp only [List.length_map] at hlen
 obtain ⟨hl, _⟩ := zoi _ _ _ hi
 have hll : len = ds.length := by omega
 subst hll
 have hrun := znc (w := w) ht hk hi hb h1
 have hids := List.isEmpty_iff.1 hids
 have hK : Keep (fun _ => False) w (w.alloc (.cells ((ps.toList.map fun x => a.eval x.2).map (·.cells.toList)).flatten.toArray ti.el)) := Keep.alloc _ _ _
 have hle := Rel.ext_le (g := g) (F := F) hK
 have hblk : (w.alloc (.cells ((ps.toList.map fun x => a.eval x.2).map (·.cells.toList)).flatten.toArray ti.el)).heap[w.heap.size]? = some (.cells ((ps.toList.map fun x => a.eval x.2).map (·.cells.toList)).flatten.toArray ti.el (0, 0)) := heap_alloc_new w _
 rw [zlj]
 refine ⟨_, _, g, .inl (by unfold execOp; simp only [ho]; simp only [Sem.run_bind, hrun, Result.andThen_ok, Sem.run_pure]; rfl), ?_, Rel.ext hR hK⟩
 have hnM : ¬ (cx (w.alloc (.cells ((ps.toList.map fun x => a.eval x.2).map (·.cells.toList)).flatten.toArray ti.el)) g F.hp).M w.heap.size := by
  intro h
  have := hR.mem.own_lt h
  omega
 have hrange := zf6 hblk [] ((ps.toList.map fun x => a.eval x.2).map (·.cells.toList)).flatten [] (by simp) rfl
 have hul := zjk ds
 have hcc : (bif okML new1 ds then 9 else 1) % 8 = 1 := by cases okML new1 ds <;> rfl
 have key : ∀ (q : Nat -> Bool) (Zt : Nat -> Prop), (∀ m, q m = true -> ∃ Z, (cx w g F.hp).zone m = some Z /\ ∀ b, ¬ (cx w g F.hp).M b -> Z b -> b < (cx w g F.hp).w.heap.size -> Zt b) -> okML q ds = true ->
   elems ((cx (w.alloc (.cells ((ps.toList.map fun x => a.eval x.2).map (·.cells.toList)).flatten.toArray ti.el)) g F.hp).at Zt) (unfL ds) w.heap.size 0 ti.esz := by
  intro q Zt hq hk
  have := zjq hq ds _ hk hids hr
  refine zn2 this h1 h2 _ _ _ hrange _ rfl ?_
  exact Cx.Le.inner (C := cx w g F.hp) (C' := cx _ g F.hp) hK.shp fun b g1 g2 g3 => ⟨g1, g2, hK.block b g3 id⟩
 simp only [rep, hcc]
 refine ⟨_, _, by rw [hul], by rw [hul]; exact za4 _, ?_, by simp, by simp, fun _ => by rw [hul], by simp, fun _ => rfl, ?_⟩
 have : ds.length * 1 <= ds.length * ti.esz := Nat.mul_le_mul_left _ (by omega)
 omega
 right
 intro Z' hZ'
 refine ⟨_, rfl, rfl, hnM, ?_, ⟨by simp [cx], fun h => by simp at h⟩, ?_⟩
 cases hb : okML new1 ds
 rw [hb] at hZ'
 have : Z' = g.Z := by simpa [Cx.zone, cx] using hZ'.symm
 subst this
 exact hR.mem.zs.z0 _ (za4 _)
 rw [hb] at hZ'
 obtain ⟨Z1, k1, k2, k3⟩ := hR.mem.zs.z1
 have : Z' = Z1 := by
  have : g.zn 1 = some Z' := by simpa [Cx.zone, cx] using hZ'
  rw [k1] at this
  exact (sj this).symm
 subst this
 exact k3 _ (za4 _)
 cases hb : okML new1 ds
 rw [hb] at hZ'
 have : Z' = g.Z := by simpa [Cx.zone, cx] using hZ'.symm
 subst this
 exact key low3 g.Z hR.mem.low hlow
 rw [hb] at hZ'
 obtain ⟨Z1, k1, k2, k3⟩ := hR.mem.zs.z1
 have : Z' = Z1 := by
  have : g.zn 1 = some Z' := by simpa [Cx.zone, cx] using hZ'
  rw [k1] at this
  exact (sj this).symm
 subst this
 refine key new1 Z' ?_ hb
 intro m hm
 have hm : m = 1 := nb hm
 subst hm
 exact ⟨Z', k1, fun b _ h _ => h⟩
omit hR in
theorem Rel.wrote_le {w' : World} {id : Nat} {blk : Blk} {b o : Nat} (hl : F.hp id ≠ none) (hs : g.σ id = some (b, o)) (hK : Keep (fun k => k = b) w w') : Cx.Le (cx w g F.hp) (cx w' g (effH F.hp [(id, some blk)])) := by
 have hp1 : ∀ x, x ≠ id -> effH F.hp [(id, some blk)] x = F.hp x := by
  intro x hx
  have hb : Nat.beq id x = false := zdi (fun e => hx e.symm)
  simp [effH, getL, hb]
 have hne : ∀ x, effH F.hp [(id, some blk)] x ≠ none -> F.hp x ≠ none := by
  intro x h
  by_cases e : x = id
  subst e; exact hl
  rwa [hp1 x e] at h
 have hK' : Keep (zsv g F.hp fun k => k = id) w w' := hK.mono fun k _ e => by subst e; exact ⟨id, o, rfl, hl, hs⟩
 refine Mem.le (g' := g) hK' rfl rfl (fun _ _ => rfl) ?_
 rintro b ⟨x, o', h1, h2⟩
 exact .inr ⟨x, o', hne x h1, h2⟩
theorem zrq {o : Oper} {d : D} {v : Value} {id e s off m b : Nat} {p q : Bool} {items mids : List D} {cs : Array Value} {nv : List Value} (hb : F.hp id = some (.arr e s p items)) (hσ : g.σ id = some (b, 0)) (hblk : w.heap[b]? = some (.cells cs e (0, 0)))
  (hsz : items.length * s <= cs.size) (hel : elems { cx w g F.hp with rf := !p } items b 0 s) (hl : off + m <= items.length) (hm : mids.length = m) (hnv : nv.length = m * s) (h1 : nv.all (·.oneCell') = true) (hmid : Carry { cx w g F.hp with rf := !q } mids s nv)
  (hrun : ∀ w', (storeCells ⟨b, off * s, none⟩ nv).run P w = .ok () w' -> (execOp a.eval o).run P w = .ok (.value v) w') (hd : ∀ C, Cx.Le (cx w g F.hp) C -> rep C d v) :
  ze2 P E n a o (F.eff [(id, some (.arr e s (p && q) (items.take off ++ mids ++ items.drop (off + m))))] (0, 0)) d w := by
 have hfit : off * s + nv.length <= cs.size := by
  rw [hnv, <- Nat.add_mul]; exact zar (Nat.mul_le_mul_right _ hl) hsz
 have hst := run_storeCells_at P b (off * s) e nv 0 cs w hblk (by simpa using hfit) (List.all_eq_true.1 h1)
 simp only [Nat.add_zero] at hst
 have hszz : (cs.toList.take (off * s) ++ nv ++ cs.toList.drop (off * s + nv.length)).toArray.size = cs.size := by simp; omega
 refine ⟨v, _, g, .inl (hrun _ hst), hd _ (Rel.wrote_le (by rw [hb]; simp) hσ (zi4 w b cs _ e _ hblk hszz)), Rel.wrote hR (by rw [hb]; simp) hσ (zi4 w b cs _ e _ hblk hszz) ?_⟩
 intro C hC hle hrf hσC
 have hblkC : C.w.heap[b]? = some (.cells (cs.toList.take (off * s) ++ nv ++ cs.toList.drop (off * s + nv.length)).toArray e (0, 0)) := by subst hC; exact setRow_heap w b cs _ e _ hblk
 refine .inr ⟨b, _, hσC, hblkC, ?_, ?_⟩
 rw [hszz]
 have : (items.take off ++ mids ++ items.drop (off + m)).length = items.length := by simp; omega
 rw [this]; exact hsz
 refine ya24 (zph hle rfl _ _ (by cases p <;> cases q <;> simp)) hel hblk hl hsz hm hnv ?_ hblkC
 intro hr
 exact hmid _ _ _ hr _ rfl (zph hle rfl _ _ (by cases p <;> cases q <;> simp))
theorem zpg {o : Oper} {d : D} {v : Value} {id e s off m b : Nat} {p q : Bool} {items mids : List D} {cs : Array Value} {nv : List Value} (hb : F.hp id = some (.arr e s p items)) (hσ : g.σ id = some (b, 0)) (hblk : w.heap[b]? = some (.cells cs e (0, 0)))
  (hsz : items.length * s <= cs.size) (hel : elems { cx w g F.hp with rf := !p } items b 0 s) (hl : off + m <= items.length) (hm : mids.length = m) (hnv : nv.length = m * s) (h1 : nv.all (·.oneCell') = true) (hmid : Carry { cx w g F.hp with rf := !q } mids s nv)
  (hrun : ∀ w', (storeCells ⟨b, off * s, none⟩ nv).run P w = .ok () w' -> (execOp a.eval o).run P w = .ok (.value v) w') (hd : ∀ C, rep C d v) :
  ze2 P E n a o (F.eff [(id, some (.arr e s (p && q) (items.take off ++ mids ++ items.drop (off + m))))] (0, 0)) d w :=
 zrq hR hb hσ hblk hsz hel hl hm hnv h1 hmid hrun fun C _ => hd C
end
def zlg : D -> Lit
 | .int k n => .int k n
 | .str s => .string s
 | .bool b => .bool b
 | _ => .bool false
def zg8 : List D -> List D -> Bool
 | [], [] => true
 | .int k _ :: z, .int k1 _ :: l => decide (k1 = k) && zg8 z l
 | .str _ :: z, .str _ :: l => zg8 z l
 | .bool _ :: z, .bool _ :: l => zg8 z l
 | _, _ => false
theorem zts : ∀ (z l l' : List D) (r : Bool), zg3 z l l' = some r -> zg8 z l = true /\ zg8 z l' = true /\ (r = true ↔ l.map zlg = l'.map zlg) := by
 intro z
 induction z with
 | nil =>
  intro l l' r h
  cases l with
  | nil =>
   cases l' with
   | nil => simp [zg3] at h; subst h; simp [zg8]
   | cons _ _ => simp [zg3] at h
  | cons _ _ => simp [zg3] at h
 | cons z0 z ih =>
  intro l l' r h
  unfold zg3 at h
  split at h
  rename_i e; cases e
  rename_i k n z' k1 a l k2 b l' e
  cases e
  cases hk : decide (k1 = k) && decide (k2 = k)
  rw [hk] at h; cases h
  rw [hk] at h
  simp only [cond_true] at h
  simp only [za0, decide_eq_true_eq] at hk
  obtain ⟨rfl, rfl⟩ := hk
  split at h
  rename_i r' hr
  cases h
  obtain ⟨h1, h2, h3⟩ := ih _ _ _ hr
  simp [zg8, h1, h2, zlg, h3]
  cases h
  rename_i z' a l b l' e
  cases e
  split at h
  rename_i r' hr
  cases h
  obtain ⟨h1, h2, h3⟩ := ih _ _ _ hr
  simp [zg8, h1, h2, zlg, h3]
  cases h
  rename_i z' a l b l' e
  cases e
  split at h
  rename_i r' hr
  cases h
  obtain ⟨h1, h2, h3⟩ := ih _ _ _ hr
  simp [zg8, h1, h2, zlg, h3]
  cases h
  cases h
theorem zme {P : Program} {C : Cx} : ∀ (fs : List Field) (j : Nat) (z l : List D) (pre cs : List Value), pre.length = j -> zkt P j fs z = true -> zg8 z l = true -> reps C l cs ->
  (fs.mapM fun f => P.keyLits 1 f.type (((pre ++ cs).drop f.offset).take (P.cellsOf f.type))) = some (l.map fun d => [zlg d]) /\ fs.all (·.name != "_") = true /\ cs.length = fs.length
 | [], j, z, l, pre, cs, hp, hf, hl, hr => by
  cases z with
  | nil =>
   cases l with
   | nil => simp only [reps] at hr; subst hr; simp
   | cons d l => simp [zg8] at hl
  | cons _ _ => simp [zkt] at hf
 | f :: fs, j, z, l, pre, cs, hp, hf, hl, hr => by
  cases z with
  | nil => simp [zkt] at hf
  | cons z0 z =>
   simp only [zkt, za0] at hf
   obtain ⟨⟨⟨⟨h1, h2⟩, h3⟩, h4⟩, h5⟩ := hf
   have h1 := nb h1
   have h2 := nb h2
   cases l with
   | nil => cases z0 <;> simp [zg8] at hl
   | cons d l =>
    simp only [reps] at hr
    obtain ⟨v, vs, rfl, hd, hr⟩ := hr
    have hrest : zg8 z l = true /\ P.keyLits 1 f.type [v] = some [zlg d] := by
     unfold zg8 at hl
     split at hl
     rename_i e _; cases e
     rename_i k n z' k1 m l' e e'
     cases e; cases e'
     simp only [za0, decide_eq_true_eq] at hl
     obtain ⟨rfl, hl⟩ := hl
     simp only [rep] at hd
     obtain ⟨rfl, hd⟩ := hd
     refine ⟨hl, ?_⟩
     split at h4
     rename_i k k' n' hu hz
     cases hz
     simp only [decide_eq_true_eq] at h4
     subst h4
     simp [Program.keyLits, hu, Lit.wf, hd, zlg]
     rename_i hz; cases hz
     rename_i hz; cases hz
     cases h4
     rename_i s z' t l' e e'
     cases e; cases e'
     simp only [rep] at hd
     obtain ⟨rfl, hd⟩ := hd
     refine ⟨hl, ?_⟩
     split at h4
     rename_i hz; cases hz
     rename_i hu hz
     have : (ByteArray.mk t.toArray).size <= maxLen := by
      have e : (ByteArray.mk t.toArray).size = t.length := by simp [ByteArray.size]
      rw [e]; show t.length <= 9223372036854775807; omega
     simp [Program.keyLits, hu, zlg, this]
     rename_i hz; cases hz
     cases h4
     rename_i b z' b' l' e e'
     cases e; cases e'
     simp only [rep] at hd
     subst hd
     refine ⟨hl, ?_⟩
     split at h4
     rename_i hz; cases hz
     rename_i hz; cases hz
     rename_i hu hz
     simp [Program.keyLits, hu, zlg]
     cases h4
     cases hl
    obtain ⟨g1, g2, g3⟩ := zme fs (j + 1) z l (pre ++ [v]) vs (by simp [hp]) h5 hrest.1 hr
    have hd1 : ((pre ++ v :: vs).drop f.offset).take (P.cellsOf f.type) = [v] := by
     rw [h1, h2, <- hp, List.drop_left]; rfl
    rw [List.append_assoc, List.singleton_append] at g1
    refine ⟨?_, by simp [g2, h3], by simp [g3]⟩
    rw [List.mapM_cons, hd1, hrest.2, g1]
    rfl
theorem zyu : ∀ l : List D, (l.map fun d => [zlg d]).flatten = l.map zlg
 | [] => rfl
 | d :: l => by simp [zyu l]
theorem zmw : ∀ (n : Nat) (z l : List D), zg8 z l = true -> zg8 (z.take n) (l.take n) = true /\ zg8 (z.drop n) (l.drop n) = true
 | 0, z, l, h => by simp [zg8, h]
 | n + 1, [], l, h => by cases l <;> simp [zg8] at h ⊢
 | n + 1, d :: z, [], h => by cases d <;> simp [zg8] at h
 | n + 1, d :: z, e :: l, h => by
  unfold zg8 at h
  split at h
  rename_i e1 _; cases e1
  rename_i e1 e2; cases e1; cases e2
  simp only [za0] at h
  obtain ⟨h1, h2⟩ := zmw n _ _ h.2
  exact ⟨by simp only [List.take_succ_cons, zg8, h.1, h1, Bool.and_self], by simpa using h2⟩
  rename_i e1 e2; cases e1; cases e2
  obtain ⟨h1, h2⟩ := zmw n _ _ h
  exact ⟨by simp only [List.take_succ_cons, zg8, h1], by simpa using h2⟩
  rename_i e1 e2; cases e1; cases e2
  obtain ⟨h1, h2⟩ := zmw n _ _ h
  exact ⟨by simp only [List.take_succ_cons, zg8, h1], by simpa using h2⟩
  cases h
theorem zhq : ∀ (z l : List D), zg8 z l = true -> l.length = z.length
 | [], [], _ => rfl
 | [], _ :: _, h => by simp [zg8] at h
 | d :: z, [], h => by cases d <;> simp [zg8] at h
 | d :: z, e :: l, h => by
  unfold zg8 at h
  split at h
  rename_i e1 _; cases e1
  rename_i e1 e2; cases e1; cases e2
  simp only [za0] at h
  simp [zhq _ _ h.2]
  rename_i e1 e2; cases e1; cases e2; simp [zhq _ _ h]
  rename_i e1 e2; cases e1; cases e2; simp [zhq _ _ h]
  cases h
theorem zp8 {C : Cx} : ∀ (n : Nat) (l : List D) (cs : List Value), reps C l cs -> reps C (l.take n) (cs.take n) /\ reps C (l.drop n) (cs.drop n) /\ cs.length = l.length
 | 0, l, cs, h => by
  refine ⟨by simp [reps], by simpa using h, ?_⟩
  induction l generalizing cs with
  | nil => simp only [reps] at h; subst h; rfl
  | cons d l ih => simp only [reps] at h; obtain ⟨v, vs, rfl, _, h2⟩ := h; simp [ih vs h2]
 | n + 1, [], cs, h => by simp only [reps] at h; subst h; simp [reps]
 | n + 1, d :: l, cs, h => by
  simp only [reps] at h
  obtain ⟨v, vs, rfl, h1, h2⟩ := h
  obtain ⟨g1, g2, g3⟩ := zp8 n l vs h2
  refine ⟨?_, by simpa using g2, by simp [g3]⟩
  simp only [List.take_succ_cons, reps]
  exact ⟨v, _, rfl, h1, g1⟩
theorem ya3p {P : Program} {C : Cx} {t : TypeId} {z l : List D} {cs : List Value} (h4 : ya5i P t z = true) (hl : zg8 z l = true) (hr : reps C l cs) (hz : P.cellsOf t = z.length) : P.keyLits 2 t cs = some (l.map zlg) := by
 unfold ya5i at h4
 split at h4
 rename_i k k' n hu
 cases l with
 | nil => simp [zg8] at hl
 | cons d l =>
  unfold zg8 at hl
  split at hl <;> (rename_i e1 e2; first | cases e1 | skip) <;> (first | cases e2 | cases hl)
  rename_i l' k1 m
  simp only [za0, decide_eq_true_eq] at hl h4
  obtain ⟨rfl, hl⟩ := hl
  subst h4
  have := zhq _ _ hl
  obtain rfl : l = [] := zad this
  simp only [reps] at hr
  obtain ⟨v, vs, rfl, hd, rfl⟩ := hr
  simp only [rep] at hd
  obtain ⟨rfl, hd⟩ := hd
  simp [Program.keyLits, hu, Lit.wf, hd, zlg]
 rename_i s hu
 cases l with
 | nil => simp [zg8] at hl
 | cons d l =>
  unfold zg8 at hl
  split at hl <;> (rename_i e1 e2; first | cases e1 | skip) <;> (first | cases e2 | cases hl)
  have := zhq _ _ hl
  obtain rfl : l = [] := zad this
  simp only [reps] at hr
  obtain ⟨v, vs, rfl, hd, rfl⟩ := hr
  simp only [rep] at hd
  obtain ⟨rfl, hd⟩ := hd
  rename_i w
  have : (ByteArray.mk w.toArray).size <= maxLen := by
   have e : (ByteArray.mk w.toArray).size = w.length := by simp [ByteArray.size]
   rw [e]; show w.length <= 9223372036854775807; omega
  simp [Program.keyLits, hu, zlg, this]
 rename_i b hu
 cases l with
 | nil => simp [zg8] at hl
 | cons d l =>
  unfold zg8 at hl
  split at hl <;> (rename_i e1 e2; first | cases e1 | skip) <;> (first | cases e2 | cases hl)
  have := zhq _ _ hl
  obtain rfl : l = [] := zad this
  simp only [reps] at hr
  obtain ⟨v, vs, rfl, hd, rfl⟩ := hr
  simp only [rep] at hd
  subst hd
  simp [Program.keyLits, hu, zlg]
 rename_i fs hu
 simp only [za0, beq_iff_eq] at h4
 obtain ⟨g1, g2, g3⟩ := zme fs.toList 0 _ l [] cs rfl h4.1 hl hr
 rw [zai] at g1
 unfold Program.keyLits
 simp only [hu]
 rw [if_pos ⟨by rw [h4.2]; simpa using g3, by rw [<- Array.all_toList]; exact g2⟩, g1]
 simp [zyu]
 cases h4
theorem zne {P : Program} {C : Cx} : ∀ (fs : List Field) (j : Nat) (z l : List D) (pre cs : List Value), pre.length = j -> zjb P j fs z = true -> zg8 z l = true -> reps C l cs ->
  ∃ L : List (List Lit), (fs.mapM fun f => P.keyLits 2 f.type (((pre ++ cs).drop f.offset).take (P.cellsOf f.type))) = some L /\ L.flatten = l.map zlg /\ fs.all (·.name != "_") = true
 | [], j, z, l, pre, cs, hp, hf, hl, hr => by
  simp only [zjb, List.isEmpty_iff] at hf
  subst hf
  have := zhq _ _ hl
  obtain rfl : l = [] := zad this
  exact ⟨[], rfl, rfl, rfl⟩
 | f :: fs, j, z, l, pre, cs, hp, hf, hl, hr => by
  simp only [zjb, za0] at hf
  obtain ⟨⟨⟨⟨h1, h2⟩, h3⟩, h4⟩, h5⟩ := hf
  have h1 := nb h1
  have h3 := lb h3
  obtain ⟨a1, a2⟩ := zmw (P.cellsOf f.type) z l hl
  obtain ⟨b1, b2, b3⟩ := zp8 (P.cellsOf f.type) l cs hr
  have hlen := zhq _ _ hl
  have ht : (cs.take (P.cellsOf f.type)).length = P.cellsOf f.type := by rw [List.length_take]; omega
  have g0 := ya3p h4 a1 b1 (by rw [List.length_take]; omega)
  obtain ⟨L, g1, g2, g3⟩ := zne fs (j + P.cellsOf f.type) (z.drop (P.cellsOf f.type)) (l.drop (P.cellsOf f.type)) (pre ++ cs.take (P.cellsOf f.type)) (cs.drop (P.cellsOf f.type)) (by rw [zae, hp, ht]) h5 a2 b2
  have hd1 : ((pre ++ cs).drop f.offset).take (P.cellsOf f.type) = cs.take (P.cellsOf f.type) := by rw [h1, <- hp, List.drop_left]
  rw [List.append_assoc, List.take_append_drop] at g1
  refine ⟨((l.take (P.cellsOf f.type)).map zlg) :: L, ?_, ?_, by simp [g3, h2]⟩
  rw [List.mapM_cons, hd1, g0, g1]; rfl
  rw [List.flatten_cons, g2, <- List.map_append, List.take_append_drop]
theorem zv0 {P : Program} {C : Cx} {t : TypeId} {z : List D} {fs : Array Field} (hfs : P.underlying t = some (.struct fs)) (hfe : zjb P 0 fs.toList z = true) (hsz : P.cellsOf t = z.length) (l : List D) (cs : List Value) (hl : zg8 z l = true) (hr : reps C l cs) :
  P.keyLits 3 t cs = some (l.map zlg) /\ cs.length = z.length := by
 obtain ⟨L, g1, g2, g3⟩ := zne fs.toList 0 z l [] cs rfl hfe hl hr
 have hlen : cs.length = z.length := by rw [(zp8 0 l cs hr).2.2, zhq _ _ hl]
 refine ⟨?_, hlen⟩
 rw [zai] at g1
 unfold Program.keyLits
 simp only [hfs]
 rw [if_pos ⟨by rw [hsz]; exact hlen, by rw [<- Array.all_toList]; exact g3⟩, g1]
 simp [g2]
theorem zv9 {P : Program} {C : Cx} {t : TypeId} {l l' z : List D} {r : Bool} {fs : Array Field} {cs cs' : List Value}
  (hk : P.keyTypeAt 3 t = true) (hfs : P.underlying t = some (.struct fs)) (hfe : zjb P 0 fs.toList z = true) (hsz : P.cellsOf t = z.length)
  (h : zg3 z l l' = some r) (hr : reps C l cs) (hr' : reps C l' cs') (w : World) : (Op.equal t (.agg cs.toArray) (.agg cs'.toArray)).run P w = .ok r w := by
 obtain ⟨h1, h2, h3⟩ := zts z l l' r h
 obtain ⟨k1, n1⟩ := zv0 hfs hfe hsz l cs h1 hr
 obtain ⟨k2, n2⟩ := zv0 hfs hfe hsz l' cs' h2 hr'
 obtain ⟨r', e1, e2⟩ := run_equalIn_deep (P := P) 9997 3 t hk w 3 3 (.agg cs.toArray) (.agg cs'.toArray) _ _ (by simp [Value.formed, hfs, n1, hsz]) (by simp [Value.formed, hfs, n2, hsz]) k1 k2
 have hrr : r' = r := by
  rw [Bool.eq_iff_iff]; exact e2.trans h3.symm
 subst hrr
 exact e1
theorem ya53 {P : Program} {C : Cx} {w : World} {o : Oper} {a : Act} {op : BinOp} {t ty : TypeId} {x y : Operand} {l l' z : List D} {r : Bool} {d : D} {fs : Array Field} (ho : o.op = .binOp op t x y ty)
  (hk : P.keyTypeAt 3 t = true) (hg : P.eqGuardType P.depth t = false) (hfs : P.underlying t = some (.struct fs)) (hfe : zjb P 0 fs.toList z = true) (hsz : P.cellsOf t = z.length)
  (h : zg3 z l l' = some r) (hu : rep C (.agg l) (a.eval x)) (hv : rep C (.agg l') (a.eval y)) (hop : op = .eql /\ d = .bool r \/ op = .neq /\ d = .bool (!r)) : zfd P C a o d w := by
 simp only [rep] at hu hv
 obtain ⟨cs, hu, hr⟩ := hu
 obtain ⟨cs', hv, hr'⟩ := hv
 have e1 := zv9 hk hfs hfe hsz h hr hr' w
 unfold zfd execOp
 simp only [ho, hu, hv]
 rcases hop with ⟨rfl, rfl⟩ | ⟨rfl, rfl⟩
 refine ⟨.bool r, ?_, by simp only [rep]⟩
 simp only [Sem.run_bind, run_eqGuard_agg _ _ _ _ _ _ _ hg, Result.andThen_ok, binOp, e1, Sem.run_pure]
 refine ⟨.bool (!r), ?_, by simp only [rep]⟩
 simp only [Sem.run_bind, run_eqGuard_agg _ _ _ _ _ _ _ hg, Result.andThen_ok, binOp, e1, Sem.run_pure]
theorem zn5 : ∀ (z l l' : List D) (r0 r : Bool), zg3 z l l = some r0 -> zg3 l l l' = some r -> zg3 z l l' = some r
 | [], l, l', r0, r, h, h' => by
  cases l with
  | nil => exact h'
  | cons d l => simp [zg3] at h
 | z0 :: z, l, l', r0, r, h, h' => by
  cases l with
  | nil => unfold zg3 at h; split at h <;> simp_all
  | cons d l =>
   unfold zg3 at h
   split at h
   rename_i e _ ; cases e
   rename_i k n z' k1 a l1 k2 b l2 e1 e2 e3
   cases e1; cases e2; cases e3
   cases l' with
   | nil => cases h'
   | cons d' l' =>
    cases d' with
    | int k' b' =>
     simp only [zg3, decide_true, Bool.true_and] at h'
     cases hb : decide (k' = k1)
     rw [hb] at h'; cases h'
     rw [hb] at h'
     simp only [cond_true] at h'
     cases hd : decide (k1 = k) && decide (k1 = k)
     rw [hd] at h; cases h
     rw [hd] at h
     simp only [cond_true] at h
     simp only [Bool.and_self, decide_eq_true_eq] at hd
     simp only [decide_eq_true_eq] at hb
     subst hd hb
     split at h
     rename_i r1 hr1
     split at h'
     rename_i r2 hr2
     cases h'
     simp only [zg3, decide_true, Bool.and_true, cond_true, zn5 z l l' r1 r2 hr1 hr2]
     cases h'
     cases h
    | _ => simp [zg3] at h'
   rename_i z' a l1 b l2 e1 e2 e3
   cases e1; cases e2; cases e3
   cases l' with
   | nil => cases h'
   | cons d' l' =>
    cases d' with
    | str b' =>
     simp only [zg3] at h'
     split at h
     rename_i r1 hr1
     split at h'
     rename_i r2 hr2
     cases h'
     simp only [zg3, zn5 z l l' r1 r2 hr1 hr2]
     cases h'
     cases h
    | _ => simp [zg3] at h'
   rename_i z' a l1 b l2 e1 e2 e3
   cases e1; cases e2; cases e3
   cases l' with
   | nil => cases h'
   | cons d' l' =>
    cases d' with
    | bool b' =>
     simp only [zg3] at h'
     split at h
     rename_i r1 hr1
     split at h'
     rename_i r2 hr2
     cases h'
     simp only [zg3, zn5 z l l' r1 r2 hr1 hr2]
     cases h'
     cases h
    | _ => simp [zg3] at h'
   cases h
theorem ya40 {C : Cx} (n : Nat) : ∀ (z l l' : List D) (cs cs' : List Value), zg3 z l l' = some true -> reps C l cs -> reps C l' cs' -> cs'.length = cs.length /\ (cs'.zip cs).all (fun (x, y) => Instr.sameBits n x y) = true := by
 intro z
 induction z with
 | nil =>
  intro l l' cs cs' h hr hr'
  cases l with
  | nil =>
   cases l' with
   | nil =>
    simp only [reps] at hr hr'
    subst hr hr'
    exact ⟨rfl, rfl⟩
   | cons _ _ => simp [zg3] at h
  | cons _ _ => simp [zg3] at h
 | cons z0 z ih =>
  intro l l' cs cs' h hr hr'
  unfold zg3 at h
  split at h
  rename_i e; cases e
  rename_i k n' z' k1 a l1 k2 b l2 e
  cases e
  cases hk : decide (k1 = k) && decide (k2 = k)
  rw [hk] at h; cases h
  rw [hk] at h
  simp only [cond_true] at h
  simp only [za0, decide_eq_true_eq] at hk
  obtain ⟨rfl, rfl⟩ := hk
  split at h
  rename_i r' hr1
  simp only [za3, za0, beq_iff_eq] at h
  obtain ⟨rfl, rfl⟩ := h
  simp only [reps] at hr hr'
  obtain ⟨v, vs, rfl, h1, h2⟩ := hr
  obtain ⟨v', vs', rfl, h1', h2'⟩ := hr'
  simp only [rep] at h1 h1'
  obtain ⟨g1, g2⟩ := ih _ _ _ _ hr1 h2 h2'
  refine ⟨by simp [g1], ?_⟩
  rw [h1.1, h1'.1]
  simp only [List.zip_cons_cons, List.all_cons, za0]
  exact ⟨by simp [Instr.sameBits], g2⟩
  cases h
  rename_i z' a l1 b l2 e
  cases e
  split at h
  rename_i r' hr1
  simp only [za3, za0, beq_iff_eq] at h
  obtain ⟨rfl, rfl⟩ := h
  simp only [reps] at hr hr'
  obtain ⟨v, vs, rfl, h1, h2⟩ := hr
  obtain ⟨v', vs', rfl, h1', h2'⟩ := hr'
  simp only [rep] at h1 h1'
  obtain ⟨g1, g2⟩ := ih _ _ _ _ hr1 h2 h2'
  refine ⟨by simp [g1], ?_⟩
  rw [h1.1, h1'.1]
  simp only [List.zip_cons_cons, List.all_cons, za0]
  have hb : ∀ s : ByteArray, (s == s) = true := fun s => by
   show (s.data == s.data) = true
   simp
  exact ⟨by simp [Instr.sameBits, hb], g2⟩
  cases h
  rename_i z' a l1 b l2 e
  cases e
  split at h
  rename_i r' hr1
  simp only [za3, za0, beq_iff_eq] at h
  obtain ⟨rfl, rfl⟩ := h
  simp only [reps] at hr hr'
  obtain ⟨v, vs, rfl, h1, h2⟩ := hr
  obtain ⟨v', vs', rfl, h1', h2'⟩ := hr'
  simp only [rep] at h1 h1'
  obtain ⟨g1, g2⟩ := ih _ _ _ _ hr1 h2 h2'
  refine ⟨by simp [g1], ?_⟩
  rw [h1, h1']
  simp only [List.zip_cons_cons, List.all_cons, za0]
  exact ⟨by simp [Instr.sameBits], g2⟩
  cases h
  cases h
def ya2r (P : Program) (kt : TypeId) (k : D) : Prop :=
 (∃ i n j, k = .int i n /\ P.underlying kt = some (.int j)) \/ (∃ l, k = .str l /\ P.underlying kt = some .string) \/
 ∃ l z fs, k = .agg l /\ P.keyTypeAt 3 kt = true /\ P.underlying kt = some (.struct fs) /\ zjb P 0 fs.toList z = true /\ P.cellsOf kt = z.length /\ ∃ r, zg3 z l l = some r
structure Finder (C : Cx) (k : D) (kv : Value) (Find : List MapEntry -> Nat -> Option (Nat × Value) -> Prop) : Prop where
 nil : ∀ i, Find [] i none
 hit : ∀ x e ens i, zmf k x = some true -> rep C x e.key -> Find (e :: ens) i (some (i, e.val))
 miss : ∀ x e ens i q, zmf k x = some false -> rep C x e.key -> Find ens (i + 1) q -> Find (e :: ens) i q
 bits : ∀ x (e : MapEntry), zmf k x = some true -> rep C x e.key -> Instr.sameBits 10000 e.key kv = true
theorem zo4 {P : Program} {w : World} {empty : Bool} {kt : TypeId} {td : TypeDesc} {v : Value} (hu : P.underlying kt = some td) (htd : (∃ i, td = .int i) \/ td = .string) (m : Nat) : (Instr.checkKey empty (m + 1) kt v).run P w = .ok () w := by
 rcases htd with ⟨i, rfl⟩ | rfl <;> simp [Instr.checkKey, run_underlying hu]
theorem ya1z {P : Program} {C : Cx} {kt : TypeId} {k : D} {kv : Value} (hko : ya2r P kt k) (hk : rep C k kv) :
  ∃ Find : List MapEntry -> Nat -> Option (Nat × Value) -> Prop, Finder C k kv Find /\ (∀ ens q, Find ens 0 q -> ∀ w, (Instr.findKey kt kv ens).run P w = .ok q w) /\ ∀ empty w, (Instr.checkKey empty 10000 kt kv).run P w = .ok () w := by
 rcases hko with ⟨i, n, j, rfl, hu⟩ | ⟨l, rfl, hu⟩ | ⟨l, z, fs, rfl, hkt, hfs, hfe, hsz, r0, hr0⟩
 simp only [rep] at hk
 obtain ⟨rfl, _⟩ := hk
 have same : ∀ x e r, zmf (.int i n) x = some r -> rep C x e -> Instr.sameNow (.int j) (.int i n) e = some r /\ (r = true -> Instr.sameBits 10000 e (.int i n) = true) := by
  intro x e r h hx
  cases x <;> simp only [zmf, reduceCtorEq] at h
  rename_i i' b
  simp only [rep] at hx
  obtain ⟨rfl, _⟩ := hx
  cases hd : decide (i = i')
  rw [hd] at h; cases h
  rw [hd] at h
  simp only [decide_eq_true_eq] at hd
  subst hd
  simp only [cond_true, za3] at h
  refine ⟨by simp [Instr.sameNow, h], fun hr => ?_⟩
  rw [hr] at h
  simp only [beq_iff_eq] at h
  simp [Instr.sameBits, h]
 refine ⟨fun ens i' q => Instr.findNow (.int j) (.int i n) ens i' = some q, ⟨fun _ => rfl, fun x e ens i' h hx => ?_, fun x e ens i' q h hx hq => ?_, fun x e h hx => (same x e.key _ h hx).2 rfl⟩, fun ens q hq w => ?_, fun em w => ?_⟩
 simp only [Instr.findNow, (same x e.key _ h hx).1]
 simp only [Instr.findNow, (same x e.key _ h hx).1]; exact hq
 simp [Instr.findKey, run_underlying hu, hq]
 exact zo4 hu (.inl ⟨j, rfl⟩) 9999
 simp only [rep] at hk
 obtain ⟨rfl, _⟩ := hk
 have same : ∀ x e r, zmf (.str l) x = some r -> rep C x e -> Instr.sameNow .string (.string ⟨l.toArray⟩) e = some r /\ (r = true -> Instr.sameBits 10000 e (.string ⟨l.toArray⟩) = true) := by
  intro x e r h hx
  cases x <;> simp only [zmf, reduceCtorEq] at h
  rename_i l'
  simp only [rep] at hx
  obtain ⟨rfl, _⟩ := hx
  cases h
  have hh : ((ByteArray.mk l.toArray) == (ByteArray.mk l'.toArray)) = (l == l') := by
   show (l.toArray == l'.toArray) = (l == l'); simp
  refine ⟨by simp only [Instr.sameNow, hh], fun hr => ?_⟩
  simp only [beq_iff_eq] at hr
  rw [hr]
  simp only [Instr.sameBits]
  show (l'.toArray == l'.toArray) = true
  simp
 refine ⟨fun ens i' q => Instr.findNow .string (.string ⟨l.toArray⟩) ens i' = some q, ⟨fun _ => rfl, fun x e ens i' h hx => ?_, fun x e ens i' q h hx hq => ?_, fun x e h hx => (same x e.key _ h hx).2 rfl⟩, fun ens q hq w => ?_, fun em w => ?_⟩
 simp only [Instr.findNow, (same x e.key _ h hx).1]
 simp only [Instr.findNow, (same x e.key _ h hx).1]; exact hq
 simp [Instr.findKey, run_underlying hu, hq]
 exact zo4 hu (.inr rfl) 9999
 simp only [rep] at hk
 obtain ⟨cs, rfl, hr⟩ := hk
 have like := (zts z l l r0 hr0).1
 obtain ⟨k1, n1⟩ := zv0 hfs hfe hsz l cs like hr
 have same : ∀ x e r, zmf (.agg l) x = some r -> rep C x e -> (∀ w, (Op.equal kt (.agg cs.toArray) e).run P w = .ok r w) /\ (r = true -> Instr.sameBits 10000 e (.agg cs.toArray) = true) := by
  intro x e r h hx
  cases x <;> simp only [zmf, reduceCtorEq] at h
  rename_i l'
  simp only [rep] at hx
  obtain ⟨cs', rfl, hr'⟩ := hx
  have hz := zn5 z l l' r0 r hr0 h
  refine ⟨fun w => zv9 hkt hfs hfe hsz hz hr hr' w, fun hrr => ?_⟩
  subst hrr
  obtain ⟨g1, g2⟩ := ya40 9999 z l l' cs cs' hz hr hr'
  simp only [Instr.sameBits, za0, beq_iff_eq]
  exact ⟨by simpa using g1, g2⟩
 refine ⟨fun ens i' q => ∀ w, (Instr.findAsking kt (.agg cs.toArray) ens i').run P w = .ok q w, ⟨fun _ w => by simp [Instr.findAsking], fun x e ens i' h hx w => ?_, fun x e ens i' q h hx hq w => ?_, fun x e h hx => (same x e.key _ h hx).2 rfl⟩, fun ens q hq w => ?_, fun em w => ?_⟩
 simp [Instr.findAsking, (same x e.key _ h hx).1]
 simp [Instr.findAsking, (same x e.key _ h hx).1, hq]
 cases ens with
 | nil =>
  have := hq w
  simp [Instr.findAsking] at this
  simp [Instr.findKey, run_underlying hfs, Instr.findNow, this]
 | cons e ens =>
  have hn : Instr.findNow (.struct fs) (.agg cs.toArray) (e :: ens) 0 = none := by simp [Instr.findNow, Instr.sameNow]
  simp [Instr.findKey, run_underlying hfs, hn, hq]
 exact run_checkKey_deep em 9997 3 kt hkt w 3 (.agg cs.toArray) _ (by simp [Value.formed, hfs, n1, hsz]) k1
theorem zvy {C : Cx} {k : D} {kv : Value} {Find : List MapEntry -> Nat -> Option (Nat × Value) -> Prop} (hF : Finder C k kv Find) :
  ∀ (es : List (D × D)) (ens : List MapEntry) (i : Nat) (r : Option D), zeh C es ens -> zs5 k es = some r -> ∃ q, Find ens i q /\ (match r, q with | some d, some (_, x) => rep C d x | none, none => True | _, _ => False)
 | [], ens, i, r, h, hf => by
  simp only [zeh] at h
  subst h
  simp only [zs5, za3] at hf
  subst hf
  exact ⟨none, hF.nil i, trivial⟩
 | (x, y) :: es, ens, i, r, h, hf => by
  simp only [zeh] at h
  obtain ⟨e, ens', rfl, ⟨h1, h2⟩, h3⟩ := h
  simp only [zs5] at hf
  split at hf
  rename_i hke
  cases hf
  exact ⟨some (i, e.val), hF.hit x e ens' i hke h1, h2⟩
  rename_i hke
  obtain ⟨q, h4, h5⟩ := zvy hF es ens' (i + 1) r h3 hf
  exact ⟨q, hF.miss x e ens' i q hke h1 h4, h5⟩
  cases hf
theorem zxu {C : Cx} {k d : D} {kv v : Value} {Find : List MapEntry -> Nat -> Option (Nat × Value) -> Prop} (hF : Finder C k kv Find) (hk : rep C k kv) (hd : rep C d v) :
  ∀ (es es' : List (D × D)) (ens : List MapEntry) (i : Nat), zeh C es ens -> updD k d es = some es' -> ∃ q, Find ens i q /\
   (match q with
   | some (j, _) => i <= j /\ (∃ e, ens[j - i]? = some e /\ Instr.sameBits 10000 e.key kv = true) /\ zeh C es' (ens.modify (j - i) fun e => { e with key := kv, val := v })
   | none => es' = es ++ [(k, d)])
 | [], es', ens, i, h, hf => by
  simp only [zeh] at h
  subst h
  simp only [updD, za3] at hf
  subst hf
  exact ⟨none, hF.nil i, rfl⟩
 | (x, y) :: es, es', ens, i, h, hf => by
  simp only [zeh] at h
  obtain ⟨e, ens', rfl, ⟨h1, h2⟩, h3⟩ := h
  simp only [updD] at hf
  split at hf
  rename_i hke
  cases hf
  refine ⟨some (i, e.val), hF.hit x e ens' i hke h1, za4 _, ⟨e, by simp, hF.bits x e hke h1⟩, ?_⟩
  simp only [Nat.sub_self, List.modify_zero_cons, zeh]
  exact ⟨_, _, rfl, ⟨hk, hd⟩, h3⟩
  rename_i hke
  split at hf
  rename_i l hl
  cases hf
  obtain ⟨q, h4, h5⟩ := zxu hF hk hd es l ens' (i + 1) h3 hl
  refine ⟨q, hF.miss x e ens' i q hke h1 h4, ?_⟩
  cases q with
  | none => simp only at h5 ⊢; rw [h5]; rfl
  | some z =>
   obtain ⟨j, u⟩ := z
   obtain ⟨g1, ⟨e', g2, g3⟩, g4⟩ := h5
   have ej : j - i = (j - (i + 1)) + 1 := by omega
   refine ⟨by omega, ⟨e', by rw [ej]; simpa using g2, g3⟩, ?_⟩
   rw [ej]
   simp only [List.modify_succ_cons, zeh]
   exact ⟨_, _, rfl, ⟨h1, h2⟩, g4⟩
  cases hf
  cases hf
theorem zz2 {C : Cx} {k : D} {kv : Value} {Find : List MapEntry -> Nat -> Option (Nat × Value) -> Prop} (hF : Finder C k kv Find) :
  ∀ (es es' : List (D × D)) (ens : List MapEntry) (i : Nat), zeh C es ens -> delD k es = some es' -> ∃ q, Find ens i q /\
   (match q with
   | some (j, _) => i <= j /\ zeh C es' (ens.eraseIdx (j - i))
   | none => es' = es)
 | [], es', ens, i, h, hf => by
  simp only [zeh] at h
  subst h
  simp only [delD, za3] at hf
  subst hf
  exact ⟨none, hF.nil i, rfl⟩
 | (x, y) :: es, es', ens, i, h, hf => by
  simp only [zeh] at h
  obtain ⟨e, ens', rfl, ⟨h1, h2⟩, h3⟩ := h
  simp only [delD] at hf
  split at hf
  rename_i hke
  cases hf
  refine ⟨some (i, e.val), hF.hit x e ens' i hke h1, za4 _, ?_⟩
  simpa only [Nat.sub_self, List.eraseIdx_cons_zero] using h3
  rename_i hke
  split at hf
  rename_i l hl
  cases hf
  obtain ⟨q, h4, h5⟩ := zz2 hF es l ens' (i + 1) h3 hl
  refine ⟨q, hF.miss x e ens' i q hke h1 h4, ?_⟩
  cases q with
  | none => simp only at h5 ⊢; rw [h5]
  | some z =>
   obtain ⟨j, u⟩ := z
   obtain ⟨g1, g4⟩ := h5
   have ej : j - i = (j - (i + 1)) + 1 := by omega
   refine ⟨by omega, ?_⟩
   rw [ej]
   simp only [List.eraseIdx_cons_succ, zeh]
   exact ⟨_, _, rfl, ⟨h1, h2⟩, g4⟩
  cases hf
  cases hf
theorem zol {C : Cx} : ∀ (es : List (D × D)) (ens : List MapEntry) (x : D × D) (e : MapEntry), zeh C es ens -> ya84 C x e -> zeh C (es ++ [x]) (ens ++ [e])
 | [], ens, x, e, h, h' => by simp only [zeh] at h; subst h; simp only [zai, zeh]; exact ⟨e, [], rfl, h', rfl⟩
 | y :: es, ens, x, e, h, h' => by
  simp only [zeh] at h
  obtain ⟨e', es', rfl, h1, h2⟩ := h
  simp only [zal, zeh]
  exact ⟨e', _, rfl, h1, zol es es' x e h2 h'⟩
theorem zxv {P : Program} {t : TypeId} {ti : TI} (h : zd0 P t ti = true) (hk : ti.kind = 9) : ∃ k v, P.underlying t = some (.map k v) /\ (∃ j, P.info? v = some j /\ ∃ z, j.zero = some z /\ zf5 ti.ezero z.cells.toList = true /\ zoh z = ti.eagg) := by
 obtain ⟨i, d, hi, hd, hs, _, hm⟩ := zci h
 cases d <;> simp only [hk] at hm <;> try (first | exact hm.elim | (exfalso; omega) | (exfalso; have := hm.1; omega))
 obtain ⟨_, _, ⟨j, h4, _, h5⟩, _⟩ := hm
 exact ⟨_, _, hd, j, h4, h5⟩
section
variable {P : Program} {E : En} {n : Nat} {F : FrS} {a : Act} {w : World} {g : Gh} (hR : Rel E n F a w g)
include hR
omit hR in
theorem zkn {r : Nat} {es : Array MapEntry} {c : Nat} (h : w.heap[r]? = some (.map es c)) : (getObj r).run P w = .ok (.map es c) w := by
 simp only [getObj, Sem.run, h]
omit hR in
theorem zo5 {r : Nat} {es : Array MapEntry} {c : Nat} {o : Obj} (h : w.heap[r]? = some (.map es c)) : (setObj r o).run P w = .ok () { w with heap := w.heap.setIfInBounds r o } := by
 simp only [setObj, Sem.run, h]
theorem zw3 {o : Oper} {t : TypeId} {ti : TI} {r : Option Operand} {id : Nat} (hn : F.nu id = true) (ho : o.op = .makeMap t r) (hr : r = none \/ ∃ x k m, r = some x /\ rep (cx w g F.hp) (.int k m) (a.eval x) /\ zd0 P t ti = true /\ ti.kind = 9) :
  ze2 P E n a o (F.eff [(id, some (.map []))] (id, id + 1)) (.mref id) w := by
 have hrun : (execOp a.eval o).run P w = .ok (.value (.map (some w.heap.size))) (w.alloc (.map #[] 0)) := by
  rcases hr with rfl | ⟨x, k, m, rfl, hx, ht, hk⟩
  unfold execOp; simp [ho, Instr.makeMap]
  obtain ⟨kt, vt, hu, _⟩ := zxv ht hk
  simp only [rep] at hx
  unfold execOp; simp [ho, Instr.makeMap, hx.1, run_underlying hu, asInt, asIntOf]
 have hK : Keep (fun _ => False) w (w.alloc (.map #[] 0)) := Keep.alloc _ _ _
 obtain ⟨h2, h3⟩ := Rel.made hR (m := id) (blk := .map []) (loc := some (w.heap.size, 0)) (kl := none) hn (hK.mono fun _ _ h => h.elim) (by rintro b o h; cases h; exact .inl (za4 _)) (by
  intro C hC hle hrf hσ
  exact ⟨w.heap.size, #[], 0, hσ, by subst hC; exact heap_alloc_new w _, by simp only [zeh]⟩)
 refine ⟨_, _, _, .inl hrun, ?_, h2⟩
 simp only [rep]
 exact ⟨rfl, w.heap.size, 0, by simp [cx, setσ], rfl⟩
theorem zsb {o : Oper} {t : TypeId} {ti : TI} {x y z : Operand} {id : Nat} {k d : D} {es es' : List (D × D)} (ho : o.op = .mapUpdate t x y z \/ o.op = .insert t x y z) (ht : zd0 P t ti = true) (hk : ti.kind = 9)
  (hx : rep (cx w g F.hp) (.mref id) (a.eval x)) (hy : rep (cx w g F.hp) k (a.eval y)) (hz : rep (cx w g F.hp) d (a.eval z)) (hb : F.hp id = some (.map es)) (hu' : updD k d es = some es')
  (hkt : ∀ kt vt, P.underlying t = some (.map kt vt) -> ya2r P kt k) :
  ze2 P E n a o (F.eff [(id, some (.map es'))] (0, 0)) .undef w := by
 obtain ⟨kt, vt, hu, _⟩ := zxv ht hk
 obtain ⟨Find, hF, hfk0, hck0⟩ := ya1z (hkt _ _ hu) hy
 simp only [rep] at hx
 obtain ⟨_, b, o', hσ, he⟩ := hx
 obtain ⟨b', ens, clock, hσ', hblk, hes⟩ := hR.mem.hd id _ hb
 have e' := hσ'.symm.trans hσ
 simp only [za3, za6] at e'
 obtain ⟨rfl, rfl⟩ := e'
 have hblk0 : w.heap[b']? = some (.map ens clock) := hblk
 have hlt : b' < w.heap.size := (Array.getElem?_eq_some_iff.1 hblk0).1
 obtain ⟨q, hq, hq2⟩ := zxu hF hy hz es es' ens.toList 0 hes hu'
 have hfk : ∀ w, (Instr.findKey kt (a.eval y) ens.toList).run P w = .ok q w := hfk0 _ _ hq
 have hck := hck0 false w
 have fin : ∀ ens' clock', (Instr.mapUpdate t (.map (some b')) (a.eval y) (a.eval z)).run P w = .ok () { w with heap := w.heap.setIfInBounds b' (.map ens' clock') } -> (∀ C : Cx, Cx.Le (cx w g F.hp) C -> zeh C es' ens'.toList) ->
   ze2 P E n a o (F.eff [(id, some (.map es'))] (0, 0)) .undef w := by
  intro ens' clock' hrun hents
  refine ⟨undef, _, g, .inr ⟨?_, rfl⟩, by simp only [rep], Rel.wrote hR (w' := { w with heap := w.heap.setIfInBounds b' (.map ens' clock') }) (by rw [hb]; simp) hσ' ?_ ?_⟩
  unfold execOp
  rcases ho with ho | ho <;> (simp only [ho, he]; simp only [Sem.run_bind, hrun, Result.andThen_ok, Sem.run_pure])
  refine ⟨rfl, rfl, rfl, by simp, fun k _ hk => ?_, fun k _ => ?_⟩
  simp [Array.getElem?_setIfInBounds_ne (Ne.symm hk)]
  by_cases e : k = b'
  subst e
  have h1 : ({ w with heap := w.heap.setIfInBounds k (.map ens' clock') } : World).heap[k]? = some (.map ens' clock') := by simp [hlt]
  unfold World.shape?
  rw [h1, hblk0]
  have h1 : ({ w with heap := w.heap.setIfInBounds b' (.map ens' clock') } : World).heap[k]? = w.heap[k]? := by simp [Array.getElem?_setIfInBounds_ne (Ne.symm e)]
  unfold World.shape?
  rw [h1]
  intro C hC hle hrf hσC
  refine ⟨b', ens', clock', hσC, ?_, hents C hle⟩
  subst hC
  simp [cx, hlt]
 cases q with
 | none =>
  refine fin (ens.push { key := a.eval y, val := a.eval z, born := clock }) (clock + 1) ?_ ?_
  simp only [Instr.mapUpdate, Sem.run_bind, run_underlying hu, Result.andThen_ok]
  simp [zkn hblk0, zo5 hblk0, hck, hfk]
  intro C hle
  simp only at hq2
  rw [hq2, Array.toList_push]
  exact zol _ _ _ _ (zku hle _ _ hes) ⟨zew hle _ _ hy, zew hle _ _ hz⟩
 | some z' =>
  obtain ⟨j, u⟩ := z'
  obtain ⟨_, ⟨e0, g2, g3⟩, g4⟩ := hq2
  simp only [Nat.sub_zero] at g2 g4
  have g2' : ens[j]? = some e0 := by simpa using g2
  refine fin (ens.modify j fun e => { e with key := a.eval y, val := a.eval z }) clock ?_ ?_
  simp only [Instr.mapUpdate, Sem.run_bind, run_underlying hu, Result.andThen_ok]
  simp [zkn hblk0, zo5 hblk0, hck, hfk, g2', Instr.keyThatStays, g3]
  intro C hle
  rw [Array.toList_modify]
  exact zku hle _ _ g4
theorem ya3r {o : Oper} {c : Call} {t t' : TypeId} {ti : TI} {x y : Operand} {id : Nat} {k : D} {es es' : List (D × D)} (ho : o.op = .call c) (hc : c.callee = .builtin .delete) (hca : c.args.toList = [x, y]) (hct : c.argTypes.toList = [t, t']) (ht : zd0 P t ti = true) (hk : ti.kind = 9)
  (hx : rep (cx w g F.hp) (.mref id) (a.eval x)) (hy : rep (cx w g F.hp) k (a.eval y)) (hb : F.hp id = some (.map es)) (hu' : delD k es = some es')
  (hkt : ∀ kt vt, P.underlying t = some (.map kt vt) -> ya2r P kt k) :
  ze2 P E n a o (F.eff [(id, some (.map es'))] (0, 0)) (.tuple []) w := by
 obtain ⟨kt, vt, hu, _⟩ := zxv ht hk
 obtain ⟨Find, hF, hfk0, hck0⟩ := ya1z (hkt _ _ hu) hy
 simp only [rep] at hx
 obtain ⟨_, b, o', hσ, he⟩ := hx
 obtain ⟨b', ens, clock, hσ', hblk, hes⟩ := hR.mem.hd id _ hb
 have e' := hσ'.symm.trans hσ
 simp only [za3, za6] at e'
 obtain ⟨rfl, rfl⟩ := e'
 have hblk0 : w.heap[b']? = some (.map ens clock) := hblk
 have hlt : b' < w.heap.size := (Array.getElem?_eq_some_iff.1 hblk0).1
 have e1 : c.args = #[x, y] := by rw [<- Array.toList_inj]; simpa using hca
 have e2 : c.argTypes = #[t, t'] := by rw [<- Array.toList_inj]; simpa using hct
 obtain ⟨q, hq, hq2⟩ := zz2 hF es es' ens.toList 0 hes hu'
 have hfk : ∀ w, (Instr.findKey kt (a.eval y) ens.toList).run P w = .ok q w := hfk0 _ _ hq
 have hck := hck0 ens.isEmpty w
 have fin : ∀ ens', (∀ ty, (Builtin.delete_ #[t, t'] ty #[.map (some b'), a.eval y]).run P w = .ok (.tuple #[]) { w with heap := w.heap.setIfInBounds b' (.map ens' clock) }) -> (∀ C : Cx, Cx.Le (cx w g F.hp) C -> zeh C es' ens'.toList) ->
   ze2 P E n a o (F.eff [(id, some (.map es'))] (0, 0)) (.tuple []) w := by
  intro ens' hrun hents
  refine ⟨.tuple #[], _, g, .inl ?_, by simp only [rep, reps]; exact ⟨[], rfl, rfl⟩, Rel.wrote hR (w' := { w with heap := w.heap.setIfInBounds b' (.map ens' clock) }) (by rw [hb]; simp) hσ' ?_ ?_⟩
  unfold execOp
  simp [ho, resolve, hc, e1, e2, he, invoke, builtin, hrun]
  refine ⟨rfl, rfl, rfl, by simp, fun k _ hk => ?_, fun k _ => ?_⟩
  simp [Array.getElem?_setIfInBounds_ne (Ne.symm hk)]
  by_cases e : k = b'
  subst e
  have h1 : ({ w with heap := w.heap.setIfInBounds k (.map ens' clock) } : World).heap[k]? = some (.map ens' clock) := by simp [hlt]
  unfold World.shape?
  rw [h1, hblk0]
  have h1 : ({ w with heap := w.heap.setIfInBounds b' (.map ens' clock) } : World).heap[k]? = w.heap[k]? := by simp [Array.getElem?_setIfInBounds_ne (Ne.symm e)]
  unfold World.shape?
  rw [h1]
  intro C hC hle hrf hσC
  refine ⟨b', ens', clock, hσC, ?_, hents C hle⟩
  subst hC
  simp [cx, hlt]
 cases q with
 | none =>
  refine fin ens (fun ty => ?_) ?_
  simp [Builtin.delete_, run_underlying hu, zkn hblk0, zo5 hblk0, hck, hfk]
  intro C hle
  simp only at hq2
  rw [hq2]
  exact zku hle _ _ hes
 | some z' =>
  obtain ⟨j, u⟩ := z'
  obtain ⟨_, g4⟩ := hq2
  simp only [Nat.sub_zero] at g4
  refine fin (ens.eraseIdxIfInBounds j) (fun ty => ?_) ?_
  simp [Builtin.delete_, run_underlying hu, zkn hblk0, zo5 hblk0, hck, hfk]
  intro C hle
  rw [Array.toList_eraseIdxIfInBounds]
  exact zku hle _ _ g4
theorem zy7 {o : Oper} {t : TypeId} {ti : TI} {x y : Operand} {ok : Bool} {dx k : D} {r : Option D} (ho : o.op = .lookup t x y ok) (ht : zd0 P t ti = true) (hk : ti.kind = 9)
  (hx : rep (cx w g F.hp) dx (a.eval x)) (hy : rep (cx w g F.hp) k (a.eval y)) (hd : (dx = .nilmap /\ r = none) \/ ∃ id es, dx = .mref id /\ F.hp id = some (.map es) /\ zs5 k es = some r)
  (hkt : ∀ kt vt, P.underlying t = some (.map kt vt) -> ya2r P kt k) :
  zfd P (cx w g F.hp) a o (bif ok then .tuple [r.getD (zdp ti), .bool r.isSome] else r.getD (zdp ti)) w := by
 obtain ⟨kt, vt, hu, j, hj, z, hz, hzc, hza⟩ := zxv ht hk
 obtain ⟨Find, hF, hfk0, hck0⟩ := ya1z (hkt _ _ hu) hy
 have hzr : rep (cx w g F.hp) (zdp ti) z := zms hzc hza
 have hzv : (zeroValue vt).run P w = .ok z w := by simp [zeroValue, typeInfo, hj, hz]
 have fin : ∀ v, rep (cx w g F.hp) (r.getD (zdp ti)) v -> (Instr.lookup t (a.eval x) (a.eval y) ok).run P w = .ok (if ok then .tuple #[v, .bool r.isSome] else v) w ->
   zfd P (cx w g F.hp) a o (bif ok then .tuple [r.getD (zdp ti), .bool r.isSome] else r.getD (zdp ti)) w := by
  intro v hv hrun
  refine ⟨_, by unfold execOp; simp only [ho]; simp only [Sem.run_bind, hrun, Result.andThen_ok, Sem.run_pure]; rfl, ?_⟩
  cases ok
  simpa using hv
  simp only [cond_true, if_true, rep, reps]
  exact ⟨_, rfl, _, _, rfl, hv, _, _, rfl, rfl, rfl⟩
 rcases hd with ⟨rfl, rfl⟩ | ⟨id, es, rfl, hb, hf⟩
 simp only [rep] at hx
 refine fin z hzr ?_
 have hck := hck0 true w
 have hfk : (Instr.findKey kt (a.eval y) []).run P w = .ok none w := hfk0 _ _ (hF.nil 0) w
 simp [Instr.lookup, hx, run_underlying hu, hck, hfk, hzv]
 simp only [rep] at hx
 obtain ⟨_, b, o', hσ, he⟩ := hx
 obtain ⟨b', ens, clock, hσ', hblk, hes⟩ := hR.mem.hd id _ hb
 have e' := hσ'.symm.trans hσ
 simp only [za3, za6] at e'
 obtain ⟨rfl, rfl⟩ := e'
 have hblk0 : w.heap[b']? = some (.map ens clock) := hblk
 obtain ⟨q, hq, hq2⟩ := zvy hF es ens.toList 0 r hes hf
 have hck := fun e => hck0 e w
 have hfk : (Instr.findKey kt (a.eval y) ens.toList).run P w = .ok q w := hfk0 _ _ hq w
 cases r with
 | none =>
  cases q with
  | some _ => exact hq2.elim
  | none =>
   refine fin z hzr ?_
   simp [Instr.lookup, he, run_underlying hu, zkn hblk0, hck, hfk, hzv]
 | some d =>
  cases q with
  | none => exact hq2.elim
  | some u =>
   obtain ⟨i, v⟩ := u
   refine fin v hq2 ?_
   simp [Instr.lookup, he, run_underlying hu, zkn hblk0, hck, hfk]
end
theorem zxs {n : Int} (h1 : 0 <= n) (h2 : n <= 9223372036854775807) : IntKind.i64.wrap n = n := by
 simp [IntKind.wrap, IntKind.signed, IntKind.bits]
 omega
theorem zst {C : Cx} : ∀ (xs : List D) (l : List UInt8) (b o : Nat), zlw xs = some l -> elems C xs b o 1 -> ∃ ns : List Int, ns.length = xs.length /\ l = ns.map (fun n => UInt8.ofNat n.toNat) /\ C.w.rangeAt b o (ns.map (Value.int .u8))
 | [], l, b, o, h, _ => by
  simp only [zlw, za3] at h
  subst h
  exact ⟨[], rfl, rfl, fun j v hj => by simp at hj⟩
 | d :: xs, l, b, o, h, he => by
  simp only [elems] at he
  obtain ⟨⟨v, h1, _, _, h4⟩, h5⟩ := he
  have hd : ∃ n l', d = .int .u8 n /\ zlw xs = some l' /\ l = UInt8.ofNat n.toNat :: l' := by
   unfold zlw at h
   split at h
   rename_i heq; cases heq
   rename_i n r heq
   cases heq
   split at h
   rename_i l' hl
   cases h
   exact ⟨n, l', rfl, hl, rfl⟩
   cases h
   cases h
  obtain ⟨n, l', rfl, hl, rfl⟩ := hd
  obtain ⟨ns, g1, rfl, g3⟩ := zst xs l' b (o + 1) hl h5
  simp only [rep] at h1
  obtain ⟨rfl, _⟩ := h1
  refine ⟨n :: ns, by simp [g1], by simp, ?_⟩
  intro j u hj
  cases j with
  | zero => simp at hj; subst hj; exact h4 0 _ rfl
  | succ j =>
   have := g3 j u (by simpa using hj)
   rwa [show o + (j + 1) = o + 1 + j by omega]
theorem zs3 : ∀ (ns : List Int) (s : ByteArray), (ns.foldl (fun r n => r.push (UInt8.ofNat n.toNat)) s).data.toList = s.data.toList ++ ns.map (fun n => UInt8.ofNat n.toNat)
 | [], s => by simp
 | n :: ns, s => by
  rw [List.foldl_cons, zs3 ns]
  simp [ByteArray.push]
section
variable {P : Program} {E : En} {n : Nat} {F : FrS} {a : Act} {w : World} {g : Gh} (hR : Rel E n F a w g)
include hR
theorem Rel.reword {id : Nat} {blk blk' : Blk} (hb : F.hp id = some blk) (h : ∀ C, C.rf = true -> holds C id blk -> holds C id blk') : Rel E n (F.eff [(id, some blk')] (0, 0)) a w g := by
 have hp0 : effH F.hp [(id, some blk')] id = some blk' := by simp [effH, getL]
 have hp1 : ∀ x, x ≠ id -> effH F.hp [(id, some blk')] x = F.hp x := by
  intro x hx
  have hb : Nat.beq id x = false := zdi (fun e => hx e.symm)
  simp [effH, getL, hb]
 have hne : ∀ x, effH F.hp [(id, some blk')] x ≠ none -> F.hp x ≠ none := by
  intro x h
  by_cases e : x = id
  subst e; rw [hb]; simp
  rwa [hp1 x e] at h
 have hown : ∀ b, ownB g (effH F.hp [(id, some blk')]) b -> w.heap.size <= b \/ ownB g F.hp b := by
  rintro b ⟨x, o', h1, h2⟩
  exact .inr ⟨x, o', hne x h1, h2⟩
 have hle : Cx.Le (cx w g F.hp) (cx w g (effH F.hp [(id, some blk')])) := Mem.le (g' := g) (ch := fun _ => False) ((Keep.refl _ w).mono fun _ _ h => h) rfl rfl (fun _ _ => rfl) hown
 have : F.eff [(id, some blk')] (0, 0) = ⟨F.rd, effH F.hp [(id, some blk')], F.nu⟩ := by unfold FrS.eff; rw [zs9]
 rw [this]
 refine Rel.change hR (ch := fun k => k = id) (Keep.refl _ w) rfl rfl (fun _ _ => rfl) hown ?_ ?_ ?_ (fun _ _ => rfl) (fun _ h => h)
 intro x blk2 hb2
 by_cases e : x = id
 subst e
 rw [hp0] at hb2
 cases hb2
 exact .inr (h _ rfl (zlh (C := cx w g F.hp) hle rfl rfl (fun _ _ _ => rfl) (hR.mem.hd x blk hb)))
 rw [hp1 x e] at hb2
 exact .inl ⟨e, hb2⟩
 intro x y b o o' h1 h2 h3 h4
 exact hR.mem.inj x y b o o' (hne x h1) (hne y h2) h3 h4
 intro x h
 obtain ⟨h1, h2⟩ := hR.mem.nw x h
 refine ⟨h1, ?_⟩
 by_cases e : x = id
 subst e; rw [hb] at h2; cases h2
 rw [hp1 x e]; exact h2
omit hR in
theorem zqt {C : Cx} (hC : C.rf = true) {id e s : Nat} {p q : Bool} {items : List D} (hq : q = true -> p = true) (h : holds C id (.arr e s p items)) : holds C id (.arr e s q items) := by
 rcases h with h | ⟨b, cs, h1, h2, h3, h4⟩
 exact .inl h
 exact .inr ⟨b, cs, h1, h2, h3, zfe (C := { C with rf := !p }) (C' := { C with rf := !q }) (zph (Cx.Le.refl C) hC _ _ (by cases p <;> cases q <;> simp at hq ⊢)) _ _ _ _ rfl h4⟩
theorem zxd {o : Oper} {t : TypeId} {ti : TI} {x y : Operand} {k k' : IntKind} {l m : Int} {id : Nat} (hn : F.nu id = true) (ho : o.op = .makeSlice t x y) (ht : zd0 P t ti = true) (hk : ti.kind = 3)
  (hx : rep (cx w g F.hp) (.int k l) (a.eval x)) (hy : rep (cx w g F.hp) (.int k' m) (a.eval y)) (h0 : 0 <= l) (h1 : l <= m) (hb : m * ti.eby <= 140737488355328) (hm : m <= 9223372036854775807) :
  ze2 P E n a o (F.eff [(id, some (.arr ti.el ti.esz true (List.replicate l.toNat (zdp ti))))] (id, id + 1)) (.ref id ti.esz 0 l.toNat (some m.toNat)) w := by
 obtain ⟨e, j, hu, hj, hj1, hj2, hj3, hj4, ⟨z, hz, hzs, hzc, hza⟩, hel⟩ := zcj ht hk
 subst hel
 simp only [rep] at hx hy
 obtain ⟨hx, _⟩ := hx
 obtain ⟨hy, _⟩ := hy
 have hrun : (Instr.makeSlice t (a.eval x) (a.eval y)).run P w = .ok (.slice (some ⟨w.heap.size, 0, none⟩) l.toNat m.toNat) (w.alloc (.cells (List.replicate m.toNat z.cells.toList).flatten.toArray ti.el)) := by
  have hlb : ¬ (l < 0) := by omega
  have hml : ¬ (l > m) := by omega
  have hm0 : ¬ (m < 0) := by omega
  have hbb : ¬ ((j.bytes : Int) * m > 2 ^ 48) := by rw [hj2, Int.mul_comm]; omega
  have hroom : ¬ (m.toNat * j.bytes > roomBytes) := by
   unfold roomBytes
   rw [hj2]
   have : ((m.toNat * ti.eby : Nat) : Int) = m * ti.eby := by rw [Int.natCast_mul, Int.toNat_of_nonneg (by omega)]
   omega
  have hrow : (if m.toNat * j.size = 0 then (#[] : Array Value) else z.cells) = #[] /\ m.toNat = 0 \/ (if m.toNat * j.size = 0 then (#[] : Array Value) else z.cells) = z.cells := by
   by_cases h : m.toNat * j.size = 0
   left; simp only [h, if_true]; exact ⟨trivial, (Nat.mul_eq_zero.1 h).resolve_right hj4⟩
   right; simp only [h, if_false]
  have hcells : ((Array.range (m.toNat * j.size)).map fun i => (if m.toNat * j.size = 0 then (#[] : Array Value) else z.cells)[i % (if m.toNat * j.size = 0 then (#[] : Array Value) else z.cells).size]!) = (List.replicate m.toNat z.cells.toList).flatten.toArray := by
   apply Array.ext'
   rcases hrow with ⟨h1, h2⟩ | h1
   rw [h1, h2]; simp
   rw [h1, <- hzs]; exact zla z.cells m.toNat
  simp only [Instr.makeSlice, Sem.run_bind, run_underlying hu, Result.andThen_ok, hx, hy, asInt, asIntOf, Sem.run_pure, typeInfo, run_program, hj]
  rw [zxs (by omega) hm, zxs h0 (by omega)]
  have hc : ¬ ((decide (m < 0) || decide ((j.bytes : Int) * m > 2 ^ 48)) = true \/ l < 0 \/ l > m) := by simp only [zas, decide_eq_true_eq]; omega
  by_cases hz0 : m.toNat * j.size = 0
  have hmz : m.toNat = 0 := (Nat.mul_eq_zero.1 hz0).resolve_right hj4
  simp [hlb, hml, hm0, hbb, hroom, askRoom, sizeOf, typeInfo, hj, hmz, newRow, Array.range_zero']
  omega
  simp only [hz0, if_false] at hcells
  simp [hlb, hml, hm0, hbb, hroom, askRoom, sizeOf, typeInfo, hj, hz0, zeroValue, hz, newRow, hcells]
  omega
 have hzr : ∀ C : Cx, rep C (zdp ti) z := fun C => zms hzc hza
 have hone : z.cells.toList.all (·.oneCell') = true := (zjj _ _ hzc).1
 have hflen : ∀ k : Nat, ((List.replicate k z.cells.toList).flatten).length = k * ti.esz := by
  intro k; simp [hzs, hj1]
 have hsplit : List.replicate m.toNat z.cells.toList = List.replicate l.toNat z.cells.toList ++ List.replicate (m.toNat - l.toNat) z.cells.toList := by
  rw [List.replicate_append_replicate]; congr 1; omega
 have := zmy (P := P) hR (o := o) (e := ti.el) (id := id) (esz := ti.esz) (ncap := m.toNat) (its := List.replicate l.toNat (zdp ti)) (p := true) (kl := none) (oc := some m.toNat) (cells := (List.replicate l.toNat z.cells.toList).flatten) (rest := (List.replicate (m.toNat - l.toNat) z.cells.toList).flatten) (w1 := w) hn (Keep.refl _ w) rfl
  (by unfold execOp; simp only [ho]; simp only [Sem.run_bind, hrun, Result.andThen_ok, Sem.run_pure, List.length_replicate]; rw [<- List.flatten_append, <- hsplit])
  (by rw [hflen, hflen, <- Nat.add_mul]; congr 1; omega) (by simp; omega) (by omega) (fun c h _ => by cases h; rfl) (zpk hzr (by omega) hone _)
 simpa [kill] using this
theorem ya85 {o : Oper} {c : Call} {t t' : TypeId} {ti : TI} {s x : Operand} {id off len e s'' : Nat} {oc : Option Nat} {pu px : Bool} {items xs : List D} (ho : o.op = .call c) (hc : c.callee = .builtin .copy) (hca : c.args.toList = [s, x]) (hct : c.argTypes.toList = [t, t'])
  (ht : zd0 P t ti = true) (hk : ti.kind = 3) (hs : rep (cx w g F.hp) (.ref id ti.esz off len oc) (a.eval s)) (hb : F.hp id = some (.arr e s'' pu items)) (hs2 : s'' = ti.esz) (hl : off + len <= items.length) (hx : SrcV (cx w g F.hp) ti.esz xs px (a.eval x)) :
  ze2 P E n a o (F.eff [(id, some (.arr e s'' (pu && px) (items.take off ++ xs.take len ++ items.drop (off + Nat.min xs.length len))))] (0, 0)) (.int .i64 (Nat.min xs.length len : Nat)) w := by
 subst hs2
 obtain ⟨el, j, hu, hj, hj1, hj2, hj3, hj4, _⟩ := zcj ht hk
 have e1 : c.args = #[s, x] := by apply Array.ext'; simpa using hca
 have e2 : c.argTypes = #[t, t'] := by apply Array.ext'; simpa using hct
 simp only [rep] at hs
 obtain ⟨_, ad, cap, hsv, g1, g2, g3, _, g4⟩ := hs
 have hmin : Nat.min xs.length len <= xs.length := Nat.min_le_left _ _
 have hmin2 : Nat.min xs.length len <= len := Nat.min_le_right _ _
 obtain ⟨news, n1, n2, n3, n4⟩ := hx.first (P := P) hmin
 have htk : xs.take len = xs.take (Nat.min xs.length len) := by
  rw [List.take_eq_take_iff]
  show min len xs.length = min (min xs.length len) xs.length
  omega
 have hsz : (sizeOf el).run P w = .ok ti.esz w := by simp [sizeOf, typeInfo, hj, hj1]
 have hrun0 : ∀ w', (match ad with | some ad => (storeCells ad news).run P w | none => .ok () w) = .ok () w' -> (execOp a.eval o).run P w = .ok (.value (.int .i64 (Nat.min xs.length len : Nat))) w' := by
  intro w' h
  unfold execOp
  have hlen := hx.len (P := P) w
  have n2' : (Builtin.firstCells ti.esz (min xs.length len) (a.eval x)).run P w = .ok news.toArray w := n2
  cases ad with
  | none =>
   simp only at h
   cases h
   simp [ho, resolve, hc, e1, e2, hsv, invoke, builtin, Builtin.copy_, run_underlying hu, hlen, hsz, n2', goInt]
  | some ad =>
   simp only at h
   simp [ho, resolve, hc, e1, e2, hsv, invoke, builtin, Builtin.copy_, run_underlying hu, hlen, hsz, n2', goInt, h]
 have hd : ∀ C, rep C (.int .i64 (Nat.min xs.length len : Nat)) (.int .i64 (Nat.min xs.length len : Nat)) := by
  intro C
  simp only [rep]
  refine ⟨trivial, ?_, ?_⟩ <;> simp [IntKind.min, IntKind.max, IntKind.signed, IntKind.bits] <;> omega
 by_cases hz : Nat.min xs.length len = 0
 have hnn : news = [] := zad (by rw [n1, hz]; simp)
 subst hnn
 have hit : items.take off ++ xs.take len ++ items.drop (off + Nat.min xs.length len) = items := by
  rw [htk, hz]; simp
 rw [hit]
 refine ⟨_, w, g, .inl (hrun0 w (by cases ad <;> rfl)), hd _, ?_⟩
 exact Rel.reword hR hb fun C hC h => zqt hC (by cases pu <;> cases px <;> simp) h
 rcases g4 with g4 | ⟨b, T, nn, hσ, rfl, hsh, hnn⟩
 omega
 rcases hR.mem.hd id _ hb with ⟨rfl, _⟩ | ⟨b', cs, hσ', hblk, hszz, hel⟩
 simp at hl; omega
 have e' := hσ'.symm.trans hσ
 simp only [za3, za6] at e'
 obtain ⟨rfl, _⟩ := e'
 rw [htk]
 exact zpg hR (q := px) hb hσ' hblk hszz hel (by omega) (List.length_take.trans (Nat.min_eq_left hmin)) n1 n3 n4 (fun w' h => hrun0 w' h) hd
theorem zu6 {id s off len e s'' : Nat} {pu : Bool} {items : List D} {ad : Option Addr} {cap : Nat} (hs : rep (cx w g F.hp) (.ref id s off len none) (.slice ad len cap)) (hb : F.hp id = some (.arr e s'' pu items)) (hs2 : s'' = s) (hz : s ≠ 0) : items.length <= off + cap := by
 subst hs2
 simp only [rep] at hs
 obtain ⟨_, ad', cap', hv, g1, g2, g3, goc, g4⟩ := hs
 simp only [Value.slice.injEq] at hv
 obtain ⟨rfl, _, rfl⟩ := hv
 obtain ⟨b, T, nn, hσ, hsh, hnn⟩ := goc.2 (by simp)
 rcases hR.mem.hd id _ hb with ⟨rfl, _⟩ | ⟨b', cs, hσ', hblk, hszz, hel⟩
 simp
 have e' := hσ'.symm.trans hσ
 simp only [za3, za6] at e'
 obtain ⟨rfl, _⟩ := e'
 have hblk' : w.heap[b']? = some (.cells cs e (0, 0)) := hblk
 have hshe : (cx w g F.hp).w.shape? b' = some (e, cs.size) := by simp [cx, World.shape?, hblk']
 rw [hsh] at hshe
 simp only [za3, za6] at hshe
 have h1 : items.length * s'' <= (off + cap) * s'' := by
  rw [Nat.add_mul, hnn, hshe.2]; exact hszz
 exact Nat.le_of_mul_le_mul_right h1 (by omega)
theorem zp1 {o : Oper} {c : Call} {t t' : TypeId} {ti : TI} {s x : Operand} {xs : List D} {q vx : Bool} {id off len e : Nat} {oc : Option Nat} {p : Bool} {items : List D} (ho : o.op = .call c) (hc : c.callee = .builtin .append) (hca : c.args.toList = [s, x]) (hct : c.argTypes.toList = [t, t'])
  (ht : zd0 P t ti = true) (hk : ti.kind = 3) (ht' : (∃ e', P.underlying t' = some (.slice e')) \/ P.underlying t' = some .string) (hs : rep (cx w g F.hp) (.ref id ti.esz off len oc) (a.eval s)) (hx : vx = true -> SrcV (cx w g F.hp) ti.esz xs q (a.eval x))
  (hb : F.hp id = some (.arr e ti.esz p items)) (v1 : vx = true) (v4 : off + len + xs.length <= items.length) (hroom' : ∀ ad cap, a.eval s = .slice ad len cap -> len + xs.length <= cap) :
  ze2 P E n a o (F.eff [(id, some (.arr e ti.esz (p && q) (items.take (off + len) ++ xs ++ items.drop (off + len + xs.length))))] (0, 0)) (.ref id ti.esz off (len + xs.length) oc) w := by
 obtain ⟨el, j, hu, hj, hj1, hj2, hj3, hj4, _⟩ := zcj ht hk
 have e1 : c.args = #[s, x] := by apply Array.ext'; simpa using hca
 have e2 : c.argTypes = #[t, t'] := by apply Array.ext'; simpa using hct
 have hop : ∀ sv, a.eval s = sv -> ∀ v' w', (Builtin.append_ #[t, t'] o.type #[sv, a.eval x]).run P w = .ok v' w' -> (execOp a.eval o).run P w = .ok (.value v') w' := by
  intro sv h1 v' w' hr
  unfold execOp; simp [ho, resolve, hc, e1, e2, h1, invoke, builtin, hr]
 have hs0 := hs
 simp only [rep] at hs0
 obtain ⟨_, ad, cap, hsv, g1, g2, g3, goc, g4⟩ := hs0
 have hroom : len + xs.length <= cap := hroom' ad cap hsv
 rw [hsv] at hs
 obtain ⟨news, hN, hNc⟩ := (hx v1).src (P := P) ht'
 have hbase : ∀ hp', rep (cx w g hp') (.ref id ti.esz off (len + xs.length) oc) (.slice ad (len + xs.length) cap) := by
  intro hp'
  simp only [rep, cx] at hs ⊢
  obtain ⟨k0, ad', cap', hv', k1, k2, k3, k4, k5⟩ := hs
  simp only [Value.slice.injEq] at hv'
  obtain ⟨rfl, _, rfl⟩ := hv'
  exact ⟨k0, _, _, rfl, hroom, k2, k3, k4, k5⟩
 have hres : ∀ C, Cx.Le (cx w g F.hp) C -> rep C (.ref id ti.esz off (len + xs.length) oc) (.slice ad (len + xs.length) cap) := fun C hle => zew hle _ _ (hbase F.hp)
 by_cases hz : xs = []
 subst hz
 have hnn : news = [] := zad (by simpa using hN.newsLen)
 subst hnn
 have hr := hop _ hsv _ _ (zhh (P := P) hu hj (by rw [hj1]; exact hN) g1)
 have hit : items.take (off + len) ++ [] ++ items.drop (off + len + ([] : List D).length) = items := by simp
 rw [hit]
 exact ⟨_, w, g, .inl hr, hbase _, Rel.reword hR hb fun C hC h => zqt hC (by cases p <;> cases q <;> simp) h⟩
 have hpos := List.length_pos_iff.2 hz
 rcases g4 with g4 | ⟨b, T, nn, hσ, rfl, hsh, hnn⟩
 omega
 rcases hR.mem.hd id _ hb with ⟨rfl, _⟩ | ⟨b', cs, hσ', hblk, hszz, hel⟩
 simp only [zac] at v4; omega
 have e' := hσ'.symm.trans hσ
 simp only [za3, za6] at e'
 obtain ⟨rfl, _⟩ := e'
 refine zrq hR (q := q) hb hσ' hblk hszz hel v4 rfl hN.newsLen (List.all_eq_true.2 hN.one) hNc (fun w' hst => hop _ hsv _ _ ?_) hres
 rw [Nat.add_mul] at hst
 rw [<- hj1] at hst ⊢
 have hN' : Go.Src P j.size t' (a.eval x) xs.length news w := by rw [hj1]; exact hN
 rcases hN'.kind with ⟨e3, hk3⟩ | hk3 <;> simp [Builtin.append_, run_underlying hu, run_underlying hk3, sizeOf, typeInfo, hj, hN'.len, hroom, hN'.cells, Addr.add_lit, hst]
theorem ya01 {o : Oper} {c : Call} {t t' : TypeId} {ti : TI} {s x : Operand} {ds : D} {xs : List D} {q vx : Bool} {out : Out} (ho : o.op = .call c) (hc : c.callee = .builtin .append) (hca : c.args.toList = [s, x]) (hct : c.argTypes.toList = [t, t'])
  (ht : zd0 P t ti = true) (hk : ti.kind = 3) (ht' : (∃ e', P.underlying t' = some (.slice e')) \/ P.underlying t' = some .string) (hs : rep (cx w g F.hp) ds (a.eval s)) (hx : vx = true -> SrcV (cx w g F.hp) ti.esz xs q (a.eval x))
  (h : zhw F.hp ti.esz ds xs q vx = some out) (hv : out.vc = true) :
  ze2 P E n a o (F.eff out.eff out.nw) out.d w := by
 unfold zhw at h
 split at h
 rename_i id s' off len
 split at h
 rename_i e s'' p items hb
 cases hcase : (Nat.beq off 0 && Nat.beq len items.length)
 rw [hcase] at h
 cases h
 simp only [za0] at hv
 obtain ⟨⟨⟨v1, v2⟩, v3⟩, v4⟩ := hv
 obtain rfl := nb v2
 obtain rfl := nb v3
 have v4 := lb v4
 refine zp1 hR ho hc hca hct ht hk ht' hs hx hb v1 v4 fun ad cap hsv => ?_
 rw [hsv] at hs
 obtain ⟨el, j, hu, hj, hj1, hj2, hj3, hj4, _⟩ := zcj ht hk
 have hroom0 := zu6 hR hs hb rfl (by omega)
 omega
 rw [hcase] at h; cases h
 cases h
 rename_i id s' off len cc
 split at h
 rename_i e s'' p items hb
 cases hcase : (capK cc && Nat.blt (off + len) items.length && Nat.ble (len + xs.length) cc)
 rw [hcase] at h; cases h
 rw [hcase] at h
 cases h
 simp only [za0] at hv hcase
 obtain ⟨⟨⟨v1, v2⟩, v3⟩, v4⟩ := hv
 obtain rfl := nb v2
 obtain rfl := nb v3
 have v4 := lb v4
 refine zp1 hR ho hc hca hct ht hk ht' hs hx hb v1 v4 fun ad cap hsv => ?_
 rw [hsv] at hs
 simp only [rep] at hs
 obtain ⟨_, _, _, hv', _, _, _, goc, _⟩ := hs
 simp only [Value.slice.injEq] at hv'
 obtain ⟨_, _, rfl⟩ := hv'
 rw [goc.1 _ rfl hcase.1.1]
 exact lb hcase.2
 cases h
 cases h
theorem ya5l {o : Oper} {c : Call} {t : TypeId} {ti : TI} {x : Operand} {id off len e s' : Nat} {oc : Option Nat} {pu : Bool} {items : List D} (ho : o.op = .call c) (hc : c.callee = .builtin .clear) (hca : c.args.toList = [x]) (hct : c.argTypes.toList = [t])
  (ht : zd0 P t ti = true) (hk : ti.kind = 3) (hx : rep (cx w g F.hp) (.ref id ti.esz off len oc) (a.eval x)) (hb : F.hp id = some (.arr e s' pu items)) (hs2 : s' = ti.esz) (hl : off + len <= items.length) :
  ze2 P E n a o (F.eff [(id, some (.arr e s' pu (items.take off ++ List.replicate len (zdp ti) ++ items.drop (off + len))))] (0, 0)) (.tuple []) w := by
 subst hs2
 obtain ⟨el, j, hu, hj, hj1, hj2, hj3, hj4, ⟨z, hz, hzs, hzc, hza⟩, _⟩ := zcj ht hk
 have e1 : c.args = #[x] := by apply Array.ext'; simpa using hca
 have e2 : c.argTypes = #[t] := by apply Array.ext'; simpa using hct
 simp only [rep] at hx
 obtain ⟨_, ad, cap, hsv, g1, g2, g3, _, g4⟩ := hx
 have hd : ∀ C, rep C (.tuple []) (.tuple #[]) := by
  intro C
  simp only [rep, reps]
  exact ⟨[], rfl, rfl⟩
 by_cases hz0 : len = 0
 subst hz0
 have hit : items.take off ++ List.replicate 0 (zdp ti) ++ items.drop (off + 0) = items := by simp
 rw [hit]
 refine ⟨.tuple #[], w, g, .inl ?_, hd _, ?_⟩
 unfold execOp
 cases ad <;> simp [ho, resolve, hc, e1, e2, hsv, invoke, builtin, Builtin.clear_, run_underlying hu]
 exact Rel.reword hR hb fun C hC h => h
 rcases g4 with g4 | ⟨b, T, nn, hσ, rfl, hsh, hnn⟩
 omega
 rcases hR.mem.hd id _ hb with ⟨rfl, _⟩ | ⟨b', cs, hσ', hblk, hszz, hel⟩
 simp at hl; omega
 have e' := hσ'.symm.trans hσ
 simp only [za3, za6] at e'
 obtain ⟨rfl, _⟩ := e'
 have hzl : (Builtin.zeroCells z.cells len).toList = (List.replicate len z.cells.toList).flatten := zla z.cells len
 have hzv : (zeroValue el).run P w = .ok z w := by simp [zeroValue, typeInfo, hj, hz]
 have := zpg (P := P) hR (o := o) (q := true) (mids := List.replicate len (zdp ti)) (nv := (List.replicate len z.cells.toList).flatten) (v := .tuple #[]) (d := .tuple []) hb hσ' hblk hszz hel hl (by simp) (by simp [hzs, hj1]) (by
   have := (zjj _ _ hzc).1
   simp only [List.all_flatten, List.all_replicate]
   simp [this]) (zpk (fun C => zms hzc hza) (by omega) (zjj _ _ hzc).1 len) (fun w' h => by
   rw [<- hzl] at h
   unfold execOp
   obtain ⟨k, rfl⟩ : ∃ k, len = k + 1 := ⟨len - 1, by omega⟩
   simp [ho, resolve, hc, e1, e2, hsv, invoke, builtin, Builtin.clear_, run_underlying hu, hzv, h]) hd
 simpa using this
omit hR in
theorem ya31 (r : Nat) : (shape r).run P w = .ok (w.shape? r) w := rfl
theorem zxe {o : Oper} {t t' : TypeId} {ti tj ti' : TI} {x : Operand} {l : List UInt8} (ho : o.op = .convert t' t x) (ht : zd0 P t ti = true) (hk : ti.kind = 3) (hte : zd0 P ti.el tj = true) (hke : tj.kind = 6) (hik : tj.ik = some .u8) (ht' : zd0 P t' ti' = true)
  (hx : rep (cx w g F.hp) (.str l) (a.eval x)) : ze2 P E n a o (F.eff [] (0, 0)) (.imm 1 (l.map ub) 10) w := by
 obtain ⟨e, j, hu, hj, hj1, hj2, hj3, hj4, _, hel⟩ := zcj ht hk
 subst hel
 have hue := ya0r hte hke hik
 obtain ⟨i', d', hi', hd', _⟩ := zci ht'
 simp only [rep] at hx
 obtain ⟨hx, hlen⟩ := hx
 have hsz : (⟨l.toArray⟩ : ByteArray).size = l.length := by simp [ByteArray.size]
 have hge := grownCap_ge w l.length 0 ti.el
 have hmx := grownCap_le_maxLen w l.length 0 ti.el (by unfold maxLen; omega)
 unfold maxLen at hmx
 let cs : Array Value := ((l.map fun b : UInt8 => Value.int .u8 (b.toNat : Int)) ++ List.replicate (grownCap w l.length 0 ti.el - l.length) (Value.int .u8 0)).toArray
 have hcs : cs.size = grownCap w l.length 0 ti.el := by simp [cs]; omega
 let w1 := w.drew.alloc (.cells cs ti.el)
 have hblk1 : w1.heap[w.heap.size]? = some (.cells cs ti.el (0, 0)) := heap_alloc_new w.drew _
 have hrun : (execOp a.eval o).run P w = .ok (.value (.slice (some ⟨w.heap.size, 0, none⟩) l.length (grownCap w l.length 0 ti.el))) (w1.freeze { block := w.heap.size, off := cs.size } 1) := by
  have hsb : (Conv.stringToBytes ti.el ⟨l.toArray⟩).run P w = .ok (.slice (some ⟨w.heap.size, 0, none⟩) l.length (grownCap w l.length 0 ti.el)) (w1.freeze { block := w.heap.size, off := cs.size } 1) := by
   have hcells : (Array.map (fun b : UInt8 => Value.int .u8 (b.toNat : Int)) l.toArray ++ Array.replicate (grownCap w l.length 0 ti.el - l.length) (Value.int .u8 0)) = cs := by
    apply Array.ext'; simp [cs]
   have hshape : w1.shape? w.heap.size = some (ti.el, cs.size) := by simp [World.shape?, hblk1]
   have hms : (markStringish ⟨w.heap.size, 0, none⟩).run P w1 = .ok () (w1.freeze { block := w.heap.size, off := cs.size } 1) := by
    simp only [markStringish, Sem.run_bind, ya31, Result.andThen_ok, hshape]
    rfl
   have hch : (choose (.appendCap l.length 0 ti.el)).run P w = .ok (grownCap w l.length 0 ti.el) w.drew := rfl
   have hnr : (newRow ti.el cs).run P w.drew = .ok ⟨w.heap.size, 0, none⟩ w1 := rfl
   simp only [Conv.stringToBytes, hsz, Sem.run_bind, hch, Result.andThen_ok, hcells, hnr, hms, Sem.run_pure]
  unfold execOp
  cases d' <;> simp [ho, hx, convert, run_underlying hu, run_underlying hd', run_underlying hue, hsb]
 have hK : Keep (fun _ => False) w (w1.freeze { block := w.heap.size, off := cs.size } 1) := by
  have h1 : Keep (fun _ => False) w w1 := (Keep.refl _ w).drew.trans (Keep.alloc _ _ _)
  refine ⟨h1.os, h1.tape, h1.output, ?_, fun k hk hx => ?_, fun k hk => ?_⟩
  have := h1.size
  simpa [World.freeze] using this
  rw [<- h1.block k hk hx]
  simp only [World.freeze, Nat.one_ne_zero, if_false]
  rw [Array.getElem?_modify]
  simp [Nat.ne_of_gt hk]
  rw [<- h1.shp k hk]
  unfold World.shape?
  simp only [World.freeze, Nat.one_ne_zero, if_false]
  rw [Array.getElem?_modify]
  simp [Nat.ne_of_gt hk]
 have hblk : (w1.freeze { block := w.heap.size, off := cs.size } 1).heap[w.heap.size]? = some (.cells cs ti.el (cs.size, cs.size + 1)) := by
  simp only [World.freeze, Nat.one_ne_zero, if_false]
  rw [Array.getElem?_modify]
  simp [hblk1]
 have hrange := zf6 hblk [] (l.map fun b => Value.int .u8 (b.toNat : Int)) (List.replicate (grownCap w l.length 0 ti.el - l.length) (Value.int .u8 0)) (by simp [cs]) rfl
 rw [zlj]
 refine ⟨_, _, g, .inl hrun, ?_, Rel.ext hR hK⟩
 simp only [rep]
 refine ⟨some ⟨w.heap.size, 0, none⟩, grownCap w l.length 0 ti.el, by rw [List.length_map], by rw [List.length_map]; exact hge, by omega, by simp, by simp, by simp, by simp, fun _ => rfl, .inr fun Z' hZ' => ?_⟩
 obtain ⟨Z1, k1, k2, k3⟩ := hR.mem.zs.z1
 have : Z' = Z1 := by
  have : g.zn 1 = some Z' := by simpa [Cx.zone, cx] using hZ'
  rw [k1] at this
  exact (sj this).symm
 subst this
 refine ⟨_, rfl, rfl, ?_, k3 _ (za4 _), ⟨(Array.getElem?_eq_some_iff.1 hblk).1, fun h => by simp at h⟩, ?_⟩
 intro h
 have : w.heap.size < w.heap.size := hR.mem.own_lt h
 omega
 exact znq l _ _ _ hrange _ rfl (Cx.Le.refl ((cx (w1.freeze { block := w.heap.size, off := cs.size } 1) g F.hp).at Z'))
omit hR in
theorem zzn {C : Cx} {o : Oper} {t t' : TypeId} {ti ti' tj : TI} {x : Operand} {xs : List D} {p : Bool} {l : List UInt8} (hCw : C.w = w) (ho : o.op = .convert t' t x) (ht : zd0 P t ti = true) (hk : ti.kind = 5) (ht' : zd0 P t' ti' = true) (hk' : ti'.kind = 3) (hte : zd0 P ti'.el tj = true) (hke : tj.kind = 6) (hik : tj.ik = some .u8)
  (hx : SrcV C 1 xs p (a.eval x)) (hns : ∀ s, a.eval x ≠ .string s) (hl : zlw xs = some l) (hlen : (xs.length : Int) <= 9223372036854775807) : zfd P C a o (.str l) w := by
 have hu := zij ht hk
 obtain ⟨e, j, hu', hj, _, _, _, _, _, hel⟩ := zcj ht' hk'
 subst hel
 have hue := ya0r hte hke hik
 subst hCw
 rcases hx with ⟨ax, c, hv, hx⟩ | ⟨_, s, hv, _⟩
 have hcv : (convert t' t (a.eval x)).run P C.w = (Conv.bytesToString (a.eval x)).run P C.w := by
  rw [hv]
  cases ax <;> simp [convert, run_underlying hu, run_underlying hu', run_underlying hue]
 have key : ∃ ns : List Int, ns.length = xs.length /\ l = ns.map (fun n => UInt8.ofNat n.toNat) /\ (Conv.bytesToString (a.eval x)).run P C.w = .ok (.string (ns.foldl (fun r n => r.push (UInt8.ofNat n.toNat)) ByteArray.empty)) C.w := by
  rcases hx with rfl | ⟨a0, rfl, hs, he⟩
  simp only [zlw, za3] at hl
  subst hl
  refine ⟨[], rfl, rfl, ?_⟩
  rw [hv]
  cases ax with
  | none => simp [Conv.bytesToString]
  | some a0 => exact run_bytesToString C.w a0 0 c [] (by simp [loadCells, loadCellsFrom])
  obtain ⟨ns, h1, h2, h3⟩ := zst xs l _ _ hl he
  refine ⟨ns, h1, h2, ?_⟩
  rw [hv]
  refine run_bytesToString C.w a0 xs.length c ns ?_
  have := run_loadCells_list (P := P) C.w a0 (ns.map (Value.int .u8)) (fun j v hj => by rw [zqu hs]; exact h3 j v hj)
  rw [List.length_map, h1] at this
  exact this
 obtain ⟨ns, h1, h2, h3⟩ := key
 refine ⟨_, by unfold execOp; simp only [ho]; simp only [Sem.run_bind, hcv, h3, Result.andThen_ok, Sem.run_pure]; rfl, ?_⟩
 simp only [rep]
 refine ⟨?_, by rw [h2, List.length_map, h1]; exact hlen⟩
 congr 1
 apply bytes_inj
 rw [zs3]
 rw [<- h2]
 show [] ++ l = l
 rfl
 exact absurd hv (hns _)
end
section
variable {P : Program} {E : En} {n : Nat} {F : FrS} {a : Act} {w : World} {g : Gh} (hR : Rel E n F a w g)
include hR
theorem zzu {o : Oper} {d : D} {v : Value} {id e s off m b : Nat} {p q : Bool} {items mids : List D} {cs : Array Value} {nv : List Value} (hb : F.hp id = some (.arr e s p items)) (hσ : g.σ id = some (b, 0)) (hblk : w.heap[b]? = some (.cells cs e (0, 0)))
  (hel : elems { cx w g F.hp with rf := !p } items b 0 s) (hl : off <= items.length) (hl2 : items.length <= off + m) (hfit0 : off * s + m * s <= cs.size) (hm : mids.length = m) (hnv : nv.length = m * s) (h1 : nv.all (·.oneCell') = true) (hmid : Carry { cx w g F.hp with rf := !q } mids s nv)
  (hrun : ∀ w', (storeCells ⟨b, off * s, none⟩ nv).run P w = .ok () w' -> (execOp a.eval o).run P w = .ok (.value v) w') (hd : ∀ C, rep C d v) :
  ze2 P E n a o (F.eff [(id, some (.arr e s (p && q) (items.take off ++ mids ++ items.drop (off + m))))] (0, 0)) d w := by
 have hfit : off * s + nv.length <= cs.size := by rw [hnv]; exact hfit0
 have hst := run_storeCells_at P b (off * s) e nv 0 cs w hblk (by simpa using hfit) (List.all_eq_true.1 h1)
 simp only [Nat.add_zero] at hst
 have hszz : (cs.toList.take (off * s) ++ nv ++ cs.toList.drop (off * s + nv.length)).toArray.size = cs.size := by simp; omega
 have hd0 : items.drop (off + m) = [] := List.drop_eq_nil_of_le hl2
 refine ⟨v, _, g, .inl (hrun _ hst), hd _, Rel.wrote hR (by rw [hb]; simp) hσ (zi4 w b cs _ e _ hblk hszz) ?_⟩
 intro C hC hle hrf hσC
 have hblkC : C.w.heap[b]? = some (.cells (cs.toList.take (off * s) ++ nv ++ cs.toList.drop (off * s + nv.length)).toArray e (0, 0)) := by subst hC; exact setRow_heap w b cs _ e _ hblk
 have htl : (items.take off).length = off := by simp; omega
 obtain ⟨olds, o1, o2, o3, o4⟩ := zji _ _ _ _ (zg6 _ off _ _ _ hel)
 rw [htl] at o1
 have hold0 : cs.toList.take (off * s) = olds := by
  apply List.ext_getElem?
  intro i
  rw [List.getElem?_take]
  split
  rename_i hlt
  have hlo : i < olds.length := by rw [o1]; exact hlt
  have := o2 i olds[i] (List.getElem?_eq_getElem hlo)
  simp only [cx, World.cell?, hblk, Nat.zero_add] at this
  rw [List.getElem?_eq_getElem hlo]
  simpa using this
  rename_i hge
  rw [List.getElem?_eq_none]; rw [o1]; omega
 refine .inr ⟨b, _, hσC, hblkC, ?_, ?_⟩
 rw [hszz, hd0]
 simp only [zag, zae, htl, hm, Nat.add_mul]
 exact hfit0
 rw [hd0, zag]
 refine zgj _ _ _ _ _ (o4 _ _ _ (zf6 hblkC [] olds (nv ++ cs.toList.drop (off * s + nv.length)) (by rw [hold0]; simp) rfl) _ rfl (zph hle rfl _ _ (by cases p <;> cases q <;> simp))) ?_
 refine hmid _ _ _ (zf6 hblkC olds nv (cs.toList.drop (off * s + nv.length)) (by rw [hold0]) ?_) _ rfl (zph hle rfl _ _ (by cases p <;> cases q <;> simp))
 rw [Nat.zero_add, htl, o1]
theorem ya5k {o : Oper} {c : Call} {t t' : TypeId} {ti : TI} {s x : Operand} {id off len e s'' id2 off2 len2 e2 s2 : Nat} {oc oc2 : Option Nat} {pu px : Bool} {items items2 : List D} (ho : o.op = .call c) (hc : c.callee = .builtin .copy) (hca : c.args.toList = [s, x]) (hct : c.argTypes.toList = [t, t'])
  (ht : zd0 P t ti = true) (hk : ti.kind = 3) (hs : rep (cx w g F.hp) (.ref id ti.esz off len oc) (a.eval s)) (hb : F.hp id = some (.arr e s'' pu items)) (hs2 : s'' = ti.esz) (hl : off <= items.length)
  (hx : rep (cx w g F.hp) (.ref id2 ti.esz off2 len2 oc2) (a.eval x)) (hb2 : F.hp id2 = some (.arr e2 s2 px items2)) (hs3 : s2 = ti.esz) (hl2 : off2 + Nat.min len2 len <= items2.length) :
  ze2 P E n a o (F.eff [(id, some (.arr e s'' (pu && px) (items.take off ++ (items2.drop off2).take (Nat.min len2 len) ++ items.drop (off + Nat.min len2 len))))] (0, 0)) (.int .i64 (Nat.min len2 len : Nat)) w := by
 subst hs2
 subst hs3
 obtain ⟨el, j, hu, hj, hj1, hj2, hj3, hj4, _⟩ := zcj ht hk
 have e1 : c.args = #[s, x] := by apply Array.ext'; simpa using hca
 have e2' : c.argTypes = #[t, t'] := by apply Array.ext'; simpa using hct
 have hs0 := hs
 simp only [rep] at hs
 obtain ⟨_, ad, cap, hsv, g1, g2, g3, _, g4⟩ := hs
 have hx0 := hx
 simp only [rep] at hx
 obtain ⟨k0, ad2, cap2, hxv, k1, k2, k3, k5, k4⟩ := hx
 have hmin : Nat.min len2 len <= len2 := Nat.min_le_left _ _
 have hmin2 : Nat.min len2 len <= len := Nat.min_le_right _ _
 have hxt : rep (cx w g F.hp) (.ref id2 ti.esz off2 (Nat.min len2 len) oc2) (.slice ad2 (Nat.min len2 len) cap2) := by
  simp only [rep]
  exact ⟨k0, ad2, cap2, rfl, by omega, k2, k3, k5, k4⟩
 have hsrc := zm1 hR (esz := ti.esz) (vx := Nat.beq ti.esz ti.esz && Nat.beq ti.esz ti.esz && Nat.ble (off2 + Nat.min len2 len) items2.length) (xs := (items2.drop off2).take (Nat.min len2 len)) (p := px) hxt (by simp only [srcD, hb2]) (by
  simp only [za0]; exact ⟨⟨Nat.beq_refl _, Nat.beq_refl _⟩, zam hl2⟩)
 have hlen : ((items2.drop off2).take (Nat.min len2 len)).length = Nat.min len2 len := by simp only [List.length_take, List.length_drop]; omega
 obtain ⟨news, n1, n2, n3, n4⟩ := hsrc.first (P := P) (n := Nat.min len2 len) (by rw [hlen]; exact za4 _)
 rw [List.take_of_length_le (by rw [hlen]; exact za4 _)] at n4
 have n2' : (Builtin.firstCells ti.esz (min len2 len) (.slice ad2 len2 cap2)).run P w = .ok news.toArray w := by cases ad2 <;> exact n2
 have hsz : (sizeOf el).run P w = .ok ti.esz w := by simp [sizeOf, typeInfo, hj, hj1]
 have hrun0 : ∀ w', (match ad with | some ad => (storeCells ad news).run P w | none => .ok () w) = .ok () w' -> (execOp a.eval o).run P w = .ok (.value (.int .i64 (Nat.min len2 len : Nat))) w' := by
  intro w' h
  unfold execOp
  cases ad with
  | none =>
   simp only at h
   cases h
   simp [ho, resolve, hc, e1, e2', hsv, hxv, invoke, builtin, Builtin.copy_, Builtin.lenOf, run_underlying hu, hsz, n2', goInt]
  | some ad =>
   simp only at h
   simp [ho, resolve, hc, e1, e2', hsv, hxv, invoke, builtin, Builtin.copy_, Builtin.lenOf, run_underlying hu, hsz, n2', goInt, h]
 have hd : ∀ C, rep C (.int .i64 (Nat.min len2 len : Nat)) (.int .i64 (Nat.min len2 len : Nat)) := by
  intro C
  simp only [rep]
  refine ⟨trivial, ?_, ?_⟩ <;> simp [IntKind.min, IntKind.max, IntKind.signed, IntKind.bits] <;> omega
 by_cases hz : Nat.min len2 len = 0
 have hnn : news = [] := zad (by rw [n1, hz]; simp)
 subst hnn
 have hit : items.take off ++ (items2.drop off2).take (Nat.min len2 len) ++ items.drop (off + Nat.min len2 len) = items := by
  rw [hz]; simp
 rw [hit]
 refine ⟨_, w, g, .inl (hrun0 w (by cases ad <;> rfl)), hd _, ?_⟩
 exact Rel.reword hR hb fun C hC h => zqt hC (by cases pu <;> cases px <;> simp) h
 rcases g4 with g4 | ⟨b, T, nn, hσ, rfl, hsh, hnn⟩
 omega
 rcases hR.mem.hd id _ hb with ⟨rfl, hσ0⟩ | ⟨b', cs, hσ', hblk, hszz, hel⟩
 rw [hσ] at hσ0; cases hσ0
 have e' := hσ'.symm.trans hσ
 simp only [za3, za6] at e'
 obtain ⟨rfl, _⟩ := e'
 by_cases hcase : off + Nat.min len2 len <= items.length
 exact zpg hR (q := px) hb hσ' hblk hszz hel hcase hlen n1 n3 n4 (fun w' h => hrun0 w' h) hd
 have hblk' : w.heap[b']? = some (.cells cs e (0, 0)) := hblk
 have hshe : (cx w g F.hp).w.shape? b' = some (e, cs.size) := by simp [cx, World.shape?, hblk']
 rw [hsh] at hshe
 simp only [za3, za6] at hshe
 refine zzu hR (q := px) hb hσ' hblk hel hl (by omega) ?_ hlen n1 n3 n4 (fun w' h => hrun0 w' h) hd
 rw [<- hshe.2]
 refine zar ?_ hnn
 exact Nat.add_le_add_left (Nat.mul_le_mul_right _ (by omega)) _
theorem ztl {o : Oper} {c : Call} {t t' : TypeId} {ti : TI} {s x : Operand} {k kn : IntKind} {m : Int} {id cap : Nat} {base : Option Addr} {p : Bool} {its : List D} (hn : F.nu id = true) (ho : o.op = .call c) (hc : c.callee = .builtin .append) (hca : c.args.toList = [s, x]) (hct : c.argTypes.toList = [t, t'])
  (ht : zd0 P t ti = true) (hk : ti.kind = 3) (ht' : P.underlying t' = some (.int kn)) (hsv : a.eval s = .slice base its.length cap) (hsrc : SrcV (cx w g F.hp) ti.esz its p (.slice base its.length cap))
  (hx : rep (cx w g F.hp) (.int k m) (a.eval x)) (h0 : 0 < m) (hlt : cap < its.length + m.toNat) (hbd : (its.length + m.toNat) * ti.eby <= 140737488355328) :
  ze2 P E n a o (F.eff [(id, some (.arr ti.el ti.esz p (its ++ List.replicate m.toNat (zdp ti))))] (id, id + 1)) (.ref id ti.esz 0 (its.length + m.toNat) none) w := by
 obtain ⟨el, j, hu, hj, hj1, hj2, hj3, hj4, ⟨z, hz, hzs, hzc, hza⟩, hel⟩ := zcj ht hk
 subst hel
 have e1 : c.args = #[s, x] := by apply Array.ext'; simpa using hca
 have e2' : c.argTypes = #[t, t'] := by apply Array.ext'; simpa using hct
 simp only [rep] at hx
 obtain ⟨hxv, _⟩ := hx
 have hmn : ((m.toNat : Nat) : Int) = m := Int.toNat_of_nonneg (by omega)
 have hbd2 : its.length + m.toNat <= 140737488355328 := by
  have : (its.length + m.toNat) * 1 <= (its.length + m.toNat) * ti.eby := Nat.mul_le_mul_left _ (by omega)
  omega
 obtain ⟨olds, hO, hOc⟩ := hsrc.src (P := P) (.inl ⟨ti.el, hu⟩)
 have hr0 := Go.Lib.run_append_grow_zeros (P := P) w t t' o.type ti.el j z k kn hu ht' hj hz base its.length cap olds (by rw [hj1]; exact hO.cellsD) m.toNat (by omega) (by omega) hlt (by omega) (by
  have : m.toNat * ti.eby <= (its.length + m.toNat) * ti.eby := Nat.mul_le_mul_right _ (by omega)
  rw [hj2]; omega) (growslice_fits (by omega) (by rw [hj2]; exact hbd))
 rw [hmn] at hr0
 have hr : (execOp a.eval o).run P w = .ok (.value (.slice (some ⟨w.heap.size, 0, none⟩) (its.length + m.toNat) (grownCap w (its.length + m.toNat) cap ti.el)))
   (w.drew.alloc (.cells (olds.toArray ++ Builtin.zeroCells z.cells m.toNat ++ Builtin.zeroCells z.cells (grownCap w (its.length + m.toNat) cap ti.el - (its.length + m.toNat))) ti.el)) := by
  unfold execOp; simp [ho, resolve, hc, e1, e2', hsv, hxv, invoke, builtin, hr0]
 have hge := grownCap_ge w (its.length + m.toNat) cap ti.el
 have hmx := grownCap_le_maxLen w (its.length + m.toNat) cap ti.el (by unfold maxLen; omega)
 unfold maxLen at hmx
 have hone : z.cells.toList.all (·.oneCell') = true := (zjj _ _ hzc).1
 have hzr : ∀ C : Cx, rep C (zdp ti) z := fun C => zms hzc hza
 have hzl : ∀ k, (Builtin.zeroCells z.cells k).toList = (List.replicate k z.cells.toList).flatten := by
  intro k
  have := zla z.cells k
  unfold Builtin.zeroCells
  rw [this]
 have hlen2 : (its ++ List.replicate m.toNat (zdp ti)).length = its.length + m.toNat := by
  rw [zae, List.length_replicate]
 rw [<- hlen2]
 have := zmy (P := P) hR (o := o) (e := ti.el) (id := id) (esz := ti.esz) (ncap := grownCap w (its.length + m.toNat) cap ti.el) (its := its ++ List.replicate m.toNat (zdp ti)) (p := p) (kl := none) (oc := none)
  (cells := olds ++ (List.replicate m.toNat z.cells.toList).flatten) (rest := (Builtin.zeroCells z.cells (grownCap w (its.length + m.toNat) cap ti.el - (its.length + m.toNat))).toList) (w1 := w.drew) hn (Keep.refl _ w).drew rfl
  (by
   rw [hr, hlen2]
   congr 3
   apply Array.ext'
   simp [hzl])
  (by
   have hz0 : (Builtin.zeroCells z.cells (grownCap w (its.length + m.toNat) cap ti.el - (its.length + m.toNat))).toList.length = (grownCap w (its.length + m.toNat) cap ti.el - (its.length + m.toNat)) * ti.esz := by
    rw [<- hj1, <- hzs, <- size_zeroCells]; exact Array.length_toList
   have hz1 : ((List.replicate m.toNat z.cells.toList).flatten).length = m.toNat * ti.esz := by simp [hzs, hj1]
   rw [zae, hO.newsLen, hz0, hz1, <- Nat.add_mul, <- Nat.add_mul]
   congr 1; omega)
  (by omega) (by omega) (fun c h => by cases h)
  (by
   intro w' b' o' hr' C' hw hle
   refine zgj _ _ _ _ _ (hOc w' b' o' ?_ C' hw hle) (zpk hzr (by omega) hone _ w' b' _ ?_ C' hw hle)
   intro i u hi
   exact hr' i u (by rw [List.getElem?_append_left (List.getElem?_eq_some_iff.1 hi).1]; exact hi)
   intro i u hi
   have := hr' (olds.length + i) u (by rw [List.getElem?_append_right (by omega), Nat.add_sub_cancel_left]; exact hi)
   rwa [show o' + (olds.length + i) = o' + its.length * ti.esz + i by rw [hO.newsLen]; omega] at this)
 simpa [kill] using this
theorem ya25 {o : Oper} {c : Call} {t t' : TypeId} {ti : TI} {s x : Operand} {k kn : IntKind} {m : Int} {id id' off len e' s'' cap : Nat} {p : Bool} {items : List D} (hn : F.nu id = true) (ho : o.op = .call c) (hc : c.callee = .builtin .append) (hca : c.args.toList = [s, x]) (hct : c.argTypes.toList = [t, t'])
  (ht : zd0 P t ti = true) (hk : ti.kind = 3) (ht' : P.underlying t' = some (.int kn)) (hs : rep (cx w g F.hp) (.ref id' ti.esz off len (some cap)) (a.eval s)) (hb : F.hp id' = some (.arr e' s'' p items)) (hs2 : s'' = ti.esz) (hl : off + len <= items.length)
  (hx : rep (cx w g F.hp) (.int k m) (a.eval x)) (h0 : 0 < m) (hck : capK cap = true) (hlt : cap < len + m.toNat) (hbd : (len + m.toNat) * ti.eby <= 140737488355328) :
  ze2 P E n a o (F.eff [(id, some (.arr ti.el ti.esz p ((items.drop off).take len ++ List.replicate m.toNat (zdp ti))))] (id, id + 1)) (.ref id ti.esz 0 (len + m.toNat) none) w := by
 subst hs2
 have hs0 := hs
 simp only [rep] at hs
 obtain ⟨_, ad, cap', hsv, g1, g2, g3, g5, g4⟩ := hs
 have hcc := g5.1 cap rfl hck
 subst hcc
 have hlen : ((items.drop off).take len).length = len := by simp; omega
 have hsrc : SrcV (cx w g F.hp) ti.esz ((items.drop off).take len) p (.slice ad ((items.drop off).take len).length cap') := by
  rw [hlen]
  refine zm1 hR (esz := ti.esz) (dx := .ref id' ti.esz off len (some cap')) (vx := Nat.beq ti.esz ti.esz && Nat.beq ti.esz ti.esz && Nat.ble (off + len) items.length) (by rw [<- hsv]; exact hs0) ?_ ?_
  simp only [srcD, hb]
  simp only [za0]
  exact ⟨⟨Nat.beq_refl _, Nat.beq_refl _⟩, zam hl⟩
 have := ztl hR hn ho hc hca hct ht hk ht' (its := (items.drop off).take len) (by rw [hlen]; exact hsv) hsrc hx h0 (by rw [hlen]; exact hlt) (by rw [hlen]; exact hbd)
 rw [hlen] at this
 exact this
end
end Go.Tm

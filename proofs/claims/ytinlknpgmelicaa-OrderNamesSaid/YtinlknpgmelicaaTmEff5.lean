/- Operations with an effect: lookups in maps. -/
import Derived.Test.YtinlknpgmelicaaTmEff4
namespace Go.Tm
open Go.RowKit Go.WideShapes

theorem updD_run {C : Cx} {k d : D} {kv v : Value} {td : TypeDesc} (htd : (∃ i, td = .int i) ∨ td = .string) (hk : rep C k kv) (hd : rep C d v) (hty : ∀ i n, k = .int i n → ∃ j, td = .int j) (hty' : ∀ l, k = .str l → td = .string) :
    ∀ (es es' : List (D × D)) (ens : List MapEntry) (i : Nat), entsOk C es ens → updD k d es = some es' → ∃ q, Instr.findNow td kv ens i = some q ∧
      (match q with
      | some (j, _) => i ≤ j ∧ (∃ e, ens[j - i]? = some e ∧ Instr.sameBits 10000 e.key kv = true) ∧ entsOk C es' (ens.modify (j - i) fun e => { e with key := kv, val := v })
      | none => es' = es ++ [(k, d)])
  | [], es', ens, i, h, hf => by
    simp only [entsOk] at h
    subst h
    simp only [updD, Option.some.injEq] at hf
    subst hf
    exact ⟨none, rfl, rfl⟩
  | (x, y) :: es, es', ens, i, h, hf => by
    simp only [entsOk] at h
    obtain ⟨e, ens', rfl, ⟨h1, h2⟩, h3⟩ := h
    simp only [updD] at hf
    split at hf
    · rename_i hke
      cases hf
      have := keyEq_run htd hke hk h1 hty hty'
      refine ⟨some (i, e.val), by simp only [Instr.findNow, this], Nat.le_refl _, ⟨e, by simp, ?_⟩, ?_⟩
      · unfold keyEq at hke
        split at hke
        · rename_i i1 a1 i2 b1
          simp only [rep] at hk h1
          obtain ⟨rfl, _⟩ := hk
          rw [h1.1]
          cases hdd : decide (i1 = i2)
          · rw [hdd] at hke; cases hke
          · rw [hdd] at hke
            simp only [cond_true, Option.some.injEq, beq_iff_eq] at hke
            simp only [decide_eq_true_eq] at hdd
            simp [Instr.sameBits, hke, hdd]
        · rename_i l l'
          simp only [rep] at hk h1
          obtain ⟨rfl, _⟩ := hk
          rw [h1.1]
          simp only [Option.some.injEq, beq_iff_eq] at hke
          rw [hke]
          simp only [Instr.sameBits]
          show (l'.toArray == l'.toArray) = true
          simp
        · cases hke
      · simp only [Nat.sub_self, List.modify_zero_cons, entsOk]
        exact ⟨_, _, rfl, ⟨hk, hd⟩, h3⟩
    · rename_i hke
      have := keyEq_run htd hke hk h1 hty hty'
      split at hf
      · rename_i l hl
        cases hf
        obtain ⟨q, h4, h5⟩ := updD_run htd hk hd hty hty' es l ens' (i + 1) h3 hl
        refine ⟨q, by simp only [Instr.findNow, this]; exact h4, ?_⟩
        cases q with
        | none => simp only at h5 ⊢; rw [h5]; rfl
        | some z =>
          obtain ⟨j, u⟩ := z
          obtain ⟨g1, ⟨e', g2, g3⟩, g4⟩ := h5
          have ej : j - i = (j - (i + 1)) + 1 := by omega
          refine ⟨by omega, ⟨e', by rw [ej]; simpa using g2, g3⟩, ?_⟩
          rw [ej]
          simp only [List.modify_succ_cons, entsOk]
          exact ⟨_, _, rfl, ⟨h1, h2⟩, g4⟩
      · cases hf
    · cases hf

theorem entsOk_append {C : Cx} : ∀ (es : List (D × D)) (ens : List MapEntry) (x : D × D) (e : MapEntry), entsOk C es ens → entOk C x e → entsOk C (es ++ [x]) (ens ++ [e])
  | [], ens, x, e, h, h' => by simp only [entsOk] at h; subst h; simp only [List.nil_append, entsOk]; exact ⟨e, [], rfl, h', rfl⟩
  | y :: es, ens, x, e, h, h' => by
    simp only [entsOk] at h
    obtain ⟨e', es', rfl, h1, h2⟩ := h
    simp only [List.cons_append, entsOk]
    exact ⟨e', _, rfl, h1, entsOk_append es es' x e h2 h'⟩

theorem ti_map {P : Program} {t : TypeId} {ti : TI} (h : tiChk P t ti = true) (hk : ti.kind = 9) : ∃ k v, P.underlying t = some (.map k v) ∧ ((∃ i, P.underlying k = some (.int i)) ∨ P.underlying k = some .string) ∧ (∃ j, P.info? v = some j ∧ ∃ z, j.zero = some z ∧ zeroChk ti.ezero z.cells.toList = true ∧ isAggV z = ti.eagg) := by
  obtain ⟨i, d, hi, hd, hs, _, hm⟩ := tiChk_parts h
  cases d <;> simp only [hk] at hm <;> try (first | exact hm.elim | (exfalso; omega) | (exfalso; have := hm.1; omega))
  obtain ⟨_, _, h3, ⟨j, h4, _, h5⟩, _⟩ := hm
  exact ⟨_, _, hd, h3, j, h4, h5⟩

section
variable {P : Program} {E : En} {n : Nat} {F : FrS} {a : Act} {w : World} {g : Gh} (hR : Rel E n F a w g)
include hR

omit hR in
theorem rn_getObj {r : Nat} {es : Array MapEntry} {c : Nat} (h : w.heap[r]? = some (.map es c)) : (getObj r).run P w = .ok (.map es c) w := by
  simp only [getObj, Sem.run, h]
omit hR in
theorem rn_setObj {r : Nat} {es : Array MapEntry} {c : Nat} {o : Obj} (h : w.heap[r]? = some (.map es c)) : (setObj r o).run P w = .ok () { w with heap := w.heap.setIfInBounds r o } := by
  simp only [setObj, Sem.run, h]

theorem e_makeMap {o : Oper} {t : TypeId} {ti : TI} {r : Option Operand} {id : Nat} (hn : F.nu id = true) (ho : o.op = .makeMap t r) (hr : r = none ∨ ∃ x k m, r = some x ∧ rep (cx w g F.hp) (.int k m) (a.eval x) ∧ tiChk P t ti = true ∧ ti.kind = 9) :
    Leaves P E n a o (F.eff [(id, some (.map []))] (id, id + 1)) (.mref id) w := by
  have hrun : (execOp a.eval o).run P w = .ok (.value (.map (some w.heap.size))) (w.alloc (.map #[] 0)) := by
    rcases hr with rfl | ⟨x, k, m, rfl, hx, ht, hk⟩
    · unfold execOp; simp [ho, Instr.makeMap]
    · obtain ⟨kt, vt, hu, _⟩ := ti_map ht hk
      simp only [rep] at hx
      unfold execOp; simp [ho, Instr.makeMap, hx.1, run_underlying hu, asInt, asIntOf]
  have hK : Keep (fun _ => False) w (w.alloc (.map #[] 0)) := Keep.alloc _ _ _
  obtain ⟨h2, h3⟩ := Rel.made hR (m := id) (blk := .map []) (loc := some (w.heap.size, 0)) (kl := none) hn (hK.mono fun _ _ h => h.elim) (by rintro b o h; cases h; exact .inl (Nat.le_refl _)) (by
    intro C hC hle hrf hσ
    exact ⟨w.heap.size, #[], 0, hσ, by subst hC; exact heap_alloc_new w _, by simp only [entsOk]⟩)
  refine ⟨_, _, _, .inl hrun, ?_, h2⟩
  simp only [rep]
  exact ⟨rfl, w.heap.size, 0, by simp [cx, setσ], rfl⟩

omit hR in
theorem keyD_ty {k : D} {td : TypeDesc} {v : Value} {C : Cx} (_ : rep C k v) (htd : (∃ i, td = .int i) ∨ td = .string) (h : (∃ i n, k = .int i n ∧ ∃ j, td = .int j) ∨ ∃ l, k = .str l ∧ td = .string) :
    (∀ i n, k = .int i n → ∃ j, td = .int j) ∧ (∀ l, k = .str l → td = .string) ∧ ((∃ i, td = .int i) ∨ td = .string) := by
  rcases h with ⟨i, n, rfl, j, rfl⟩ | ⟨l, rfl, rfl⟩
  · exact ⟨fun _ _ _ => ⟨j, rfl⟩, (fun _ h => by cases h), htd⟩
  · exact ⟨(fun _ _ h => by cases h), fun _ _ => rfl, htd⟩

omit hR in
theorem run_checkKey {empty : Bool} {kt : TypeId} {td : TypeDesc} {v : Value} (hu : P.underlying kt = some td) (htd : (∃ i, td = .int i) ∨ td = .string) (m : Nat) : (Instr.checkKey empty (m + 1) kt v).run P w = .ok () w := by
  rcases htd with ⟨i, rfl⟩ | rfl <;> simp [Instr.checkKey, run_underlying hu]

theorem e_mapUpdate {o : Oper} {t : TypeId} {ti : TI} {x y z : Operand} {id : Nat} {k d : D} {es es' : List (D × D)} (ho : o.op = .mapUpdate t x y z ∨ o.op = .insert t x y z) (ht : tiChk P t ti = true) (hk : ti.kind = 9)
    (hx : rep (cx w g F.hp) (.mref id) (a.eval x)) (hy : rep (cx w g F.hp) k (a.eval y)) (hz : rep (cx w g F.hp) d (a.eval z)) (hb : F.hp id = some (.map es)) (hu' : updD k d es = some es')
    (hkt : ∀ kt vt td, P.underlying t = some (.map kt vt) → P.underlying kt = some td → (∃ i n, k = .int i n ∧ ∃ j, td = .int j) ∨ ∃ l, k = .str l ∧ td = .string) :
    Leaves P E n a o (F.eff [(id, some (.map es'))] (0, 0)) .undef w := by
  obtain ⟨kt, vt, hu, hkk, _⟩ := ti_map ht hk
  obtain ⟨td, htd, htd2⟩ : ∃ td, P.underlying kt = some td ∧ ((∃ i, td = .int i) ∨ td = .string) := by
    rcases hkk with ⟨i, h⟩ | h
    · exact ⟨_, h, .inl ⟨i, rfl⟩⟩
    · exact ⟨_, h, .inr rfl⟩
  obtain ⟨ty1, ty2, ty3⟩ := keyD_ty hy htd2 (hkt _ _ _ hu htd)
  simp only [rep] at hx
  obtain ⟨_, b, o', hσ, he⟩ := hx
  obtain ⟨b', ens, clock, hσ', hblk, hes⟩ := hR.mem.hd id _ hb
  have e' := hσ'.symm.trans hσ
  simp only [Option.some.injEq, Prod.mk.injEq] at e'
  obtain ⟨rfl, rfl⟩ := e'
  have hblk0 : w.heap[b']? = some (.map ens clock) := hblk
  have hlt : b' < w.heap.size := (Array.getElem?_eq_some_iff.1 hblk0).1
  obtain ⟨q, hq, hq2⟩ := updD_run ty3 hy hz ty1 ty2 es es' ens.toList 0 hes hu'
  have hfk : ∀ w, (Instr.findKey kt (a.eval y) ens.toList).run P w = .ok q w := by
    intro w
    simp [Instr.findKey, run_underlying htd, hq]
  have hck := run_checkKey (w := w) (empty := false) (v := a.eval y) htd ty3 9999
  have fin : ∀ ens' clock', (Instr.mapUpdate t (.map (some b')) (a.eval y) (a.eval z)).run P w = .ok () { w with heap := w.heap.setIfInBounds b' (.map ens' clock') } → (∀ C : Cx, Cx.Le (cx w g F.hp) C → entsOk C es' ens'.toList) →
      Leaves P E n a o (F.eff [(id, some (.map es'))] (0, 0)) .undef w := by
    intro ens' clock' hrun hents
    refine ⟨undef, _, g, .inr ⟨?_, rfl⟩, by simp only [rep], Rel.wrote hR (w' := { w with heap := w.heap.setIfInBounds b' (.map ens' clock') }) (by rw [hb]; simp) hσ' ?_ ?_⟩
    · unfold execOp
      rcases ho with ho | ho <;> (simp only [ho, he]; simp only [Sem.run_bind, hrun, Result.andThen_ok, Sem.run_pure])
    · refine ⟨rfl, rfl, rfl, by simp, fun k _ hk => ?_, fun k _ => ?_⟩
      · simp [Array.getElem?_setIfInBounds_ne (Ne.symm hk)]
      · by_cases e : k = b'
        · subst e
          have h1 : ({ w with heap := w.heap.setIfInBounds k (.map ens' clock') } : World).heap[k]? = some (.map ens' clock') := by simp [hlt]
          unfold World.shape?
          rw [h1, hblk0]
        · have h1 : ({ w with heap := w.heap.setIfInBounds b' (.map ens' clock') } : World).heap[k]? = w.heap[k]? := by simp [Array.getElem?_setIfInBounds_ne (Ne.symm e)]
          unfold World.shape?
          rw [h1]
    · intro C hC hle hrf hσC
      refine ⟨b', ens', clock', hσC, ?_, hents C hle⟩
      subst hC
      simp [cx, hlt]
  cases q with
  | none =>
    refine fin (ens.push { key := a.eval y, val := a.eval z, born := clock }) (clock + 1) ?_ ?_
    · simp only [Instr.mapUpdate, Sem.run_bind, run_underlying hu, Result.andThen_ok]
      simp [rn_getObj hblk0, rn_setObj hblk0, hck, hfk]
    · intro C hle
      simp only at hq2
      rw [hq2, Array.toList_push]
      exact entsOk_append _ _ _ _ (entsOk_le hle _ _ hes) ⟨rep_le hle _ _ hy, rep_le hle _ _ hz⟩
  | some z' =>
    obtain ⟨j, u⟩ := z'
    obtain ⟨_, ⟨e0, g2, g3⟩, g4⟩ := hq2
    simp only [Nat.sub_zero] at g2 g4
    have g2' : ens[j]? = some e0 := by simpa using g2
    refine fin (ens.modify j fun e => { e with key := a.eval y, val := a.eval z }) clock ?_ ?_
    · simp only [Instr.mapUpdate, Sem.run_bind, run_underlying hu, Result.andThen_ok]
      simp [rn_getObj hblk0, rn_setObj hblk0, hck, hfk, g2', Instr.keyThatStays, g3]
    · intro C hle
      rw [Array.toList_modify]
      exact entsOk_le hle _ _ g4

theorem q_lookup {o : Oper} {t : TypeId} {ti : TI} {x y : Operand} {ok : Bool} {dx k : D} {r : Option D} (ho : o.op = .lookup t x y ok) (ht : tiChk P t ti = true) (hk : ti.kind = 9)
    (hx : rep (cx w g F.hp) dx (a.eval x)) (hy : rep (cx w g F.hp) k (a.eval y)) (hd : (dx = .nilmap ∧ r = none) ∨ ∃ id es, dx = .mref id ∧ F.hp id = some (.map es) ∧ findD k es = some r)
    (hkt : ∀ kt vt td, P.underlying t = some (.map kt vt) → P.underlying kt = some td → (∃ i n, k = .int i n ∧ ∃ j, td = .int j) ∨ ∃ l, k = .str l ∧ td = .string) :
    Quiet P (cx w g F.hp) a o (bif ok then .tuple [r.getD (zeroEl ti), .bool r.isSome] else r.getD (zeroEl ti)) w := by
  obtain ⟨kt, vt, hu, hkk, j, hj, z, hz, hzc, hza⟩ := ti_map ht hk
  obtain ⟨td, htd, htd2⟩ : ∃ td, P.underlying kt = some td ∧ ((∃ i, td = .int i) ∨ td = .string) := by
    rcases hkk with ⟨i, h⟩ | h
    · exact ⟨_, h, .inl ⟨i, rfl⟩⟩
    · exact ⟨_, h, .inr rfl⟩
  obtain ⟨ty1, ty2, ty3⟩ := keyD_ty hy htd2 (hkt _ _ _ hu htd)
  have hzr : rep (cx w g F.hp) (zeroEl ti) z := zeroEl_rep hzc hza
  have hzv : (zeroValue vt).run P w = .ok z w := by simp [zeroValue, typeInfo, hj, hz]
  have fin : ∀ v, rep (cx w g F.hp) (r.getD (zeroEl ti)) v → (Instr.lookup t (a.eval x) (a.eval y) ok).run P w = .ok (if ok then .tuple #[v, .bool r.isSome] else v) w →
      Quiet P (cx w g F.hp) a o (bif ok then .tuple [r.getD (zeroEl ti), .bool r.isSome] else r.getD (zeroEl ti)) w := by
    intro v hv hrun
    refine ⟨_, by unfold execOp; simp only [ho]; simp only [Sem.run_bind, hrun, Result.andThen_ok, Sem.run_pure]; rfl, ?_⟩
    cases ok
    · simpa using hv
    · simp only [cond_true, if_true, rep, reps]
      exact ⟨_, rfl, _, _, rfl, hv, _, _, rfl, rfl, rfl⟩
  rcases hd with ⟨rfl, rfl⟩ | ⟨id, es, rfl, hb, hf⟩
  · simp only [rep] at hx
    refine fin z hzr ?_
    have hck := run_checkKey (w := w) (empty := true) (v := a.eval y) htd ty3 9999
    have hfk : (Instr.findKey kt (a.eval y) []).run P w = .ok none w := by simp [Instr.findKey, run_underlying htd, Instr.findNow]
    simp [Instr.lookup, hx, run_underlying hu, hck, hfk, hzv]
  · simp only [rep] at hx
    obtain ⟨_, b, o', hσ, he⟩ := hx
    obtain ⟨b', ens, clock, hσ', hblk, hes⟩ := hR.mem.hd id _ hb
    have e' := hσ'.symm.trans hσ
    simp only [Option.some.injEq, Prod.mk.injEq] at e'
    obtain ⟨rfl, rfl⟩ := e'
    have hblk0 : w.heap[b']? = some (.map ens clock) := hblk
    obtain ⟨q, hq, hq2⟩ := findD_run ty3 hy ty1 ty2 es ens.toList 0 r hes hf
    have hck := fun e => run_checkKey (w := w) (empty := e) (v := a.eval y) htd ty3 9999
    have hfk : (Instr.findKey kt (a.eval y) ens.toList).run P w = .ok q w := by simp [Instr.findKey, run_underlying htd, hq]
    cases r with
    | none =>
      cases q with
      | some _ => exact hq2.elim
      | none =>
        refine fin z hzr ?_
        simp [Instr.lookup, he, run_underlying hu, rn_getObj hblk0, hck, hfk, hzv]
    | some d =>
      cases q with
      | none => exact hq2.elim
      | some u =>
        obtain ⟨i, v⟩ := u
        refine fin v hq2 ?_
        simp [Instr.lookup, he, run_underlying hu, rn_getObj hblk0, hck, hfk]
end
end Go.Tm

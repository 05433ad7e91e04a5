/- Operations with an effect: copies that reach beyond what is known, zeros appended. -/
import Derived.Test.YtinlknpgmelicaaTmEff6
import Derived.Lib.AppendZerosOnto
namespace Go.Tm
open Go.RowKit Go.WideShapes

section
variable {P : Program} {E : En} {n : Nat} {F : FrS} {a : Act} {w : World} {g : Gh} (hR : Rel E n F a w g)
include hR

/-- an own array, written from a place on, beyond what was known of it -/
theorem leaves_end {o : Oper} {d : D} {v : Value} {id e s off m b : Nat} {p q : Bool} {items mids : List D} {cs : Array Value} {nv : List Value} (hb : F.hp id = some (.arr e s p items)) (hσ : g.σ id = some (b, 0)) (hblk : w.heap[b]? = some (.cells cs e (0, 0)))
    (hel : elems { cx w g F.hp with rf := !p } items b 0 s) (hl : off ≤ items.length) (hl2 : items.length ≤ off + m) (hfit0 : off * s + m * s ≤ cs.size) (hm : mids.length = m) (hnv : nv.length = m * s) (h1 : nv.all (·.oneCell') = true) (hmid : Carry { cx w g F.hp with rf := !q } mids s nv)
    (hrun : ∀ w', (storeCells ⟨b, off * s, none⟩ nv).run P w = .ok () w' → (execOp a.eval o).run P w = .ok (.value v) w') (hd : ∀ C, rep C d v) :
    Leaves P E n a o (F.eff [(id, some (.arr e s (p && q) (items.take off ++ mids ++ items.drop (off + m))))] (0, 0)) d w := by
  have hfit : off * s + nv.length ≤ cs.size := by rw [hnv]; exact hfit0
  have hst := run_storeCells_at P b (off * s) e nv 0 cs w hblk (by simpa using hfit) (List.all_eq_true.1 h1)
  simp only [Nat.add_zero] at hst
  have hszz : (cs.toList.take (off * s) ++ nv ++ cs.toList.drop (off * s + nv.length)).toArray.size = cs.size := by simp; omega
  have hd0 : items.drop (off + m) = [] := List.drop_eq_nil_of_le hl2
  refine ⟨v, _, g, .inl (hrun _ hst), hd _, Rel.wrote hR (by rw [hb]; simp) hσ (setRow_keep w b cs _ e _ hblk hszz) ?_⟩
  intro C hC hle hrf hσC
  have hblkC : C.w.heap[b]? = some (.cells (cs.toList.take (off * s) ++ nv ++ cs.toList.drop (off * s + nv.length)).toArray e (0, 0)) := by subst hC; exact setRow_heap w b cs _ e _ hblk
  have htl : (items.take off).length = off := by simp; omega
  obtain ⟨olds, o1, o2, o3, o4⟩ := elems_flat _ _ _ _ (elems_take _ off _ _ _ hel)
  rw [htl] at o1
  have hold0 : cs.toList.take (off * s) = olds := by
    apply List.ext_getElem?
    intro i
    rw [List.getElem?_take]
    split
    · rename_i hlt
      have hlo : i < olds.length := by rw [o1]; exact hlt
      have := o2 i olds[i] (List.getElem?_eq_getElem hlo)
      simp only [cx, World.cell?, hblk, Nat.zero_add] at this
      rw [List.getElem?_eq_getElem hlo]
      simpa using this
    · rename_i hge
      rw [List.getElem?_eq_none]; rw [o1]; omega
  refine .inr ⟨b, _, hσC, hblkC, ?_, ?_⟩
  · rw [hszz, hd0]
    simp only [List.append_nil, List.length_append, htl, hm, Nat.add_mul]
    exact hfit0
  · rw [hd0, List.append_nil]
    refine elems_append _ _ _ _ _ (o4 _ _ _ (rangeAt_prefix hblkC [] olds (nv ++ cs.toList.drop (off * s + nv.length)) (by rw [hold0]; simp) rfl) _ rfl (le_rf hle rfl _ _ (by cases p <;> cases q <;> simp))) ?_
    refine hmid _ _ _ (rangeAt_prefix hblkC olds nv (cs.toList.drop (off * s + nv.length)) (by rw [hold0]) ?_) _ rfl (le_rf hle rfl _ _ (by cases p <;> cases q <;> simp))
    rw [Nat.zero_add, htl, o1]

theorem e_copy2 {o : Oper} {c : Call} {t t' : TypeId} {ti : TI} {s x : Operand} {id off len e s'' id2 off2 len2 e2 s2 : Nat} {oc oc2 : Option Nat} {pu px : Bool} {items items2 : List D} (ho : o.op = .call c) (hc : c.callee = .builtin .copy) (hca : c.args.toList = [s, x]) (hct : c.argTypes.toList = [t, t'])
    (ht : tiChk P t ti = true) (hk : ti.kind = 3) (hs : rep (cx w g F.hp) (.ref id ti.esz off len oc) (a.eval s)) (hb : F.hp id = some (.arr e s'' pu items)) (hs2 : s'' = ti.esz) (hl : off ≤ items.length)
    (hx : rep (cx w g F.hp) (.ref id2 ti.esz off2 len2 oc2) (a.eval x)) (hb2 : F.hp id2 = some (.arr e2 s2 px items2)) (hs3 : s2 = ti.esz) (hl2 : off2 + Nat.min len2 len ≤ items2.length) :
    Leaves P E n a o (F.eff [(id, some (.arr e s'' (pu && px) (items.take off ++ (items2.drop off2).take (Nat.min len2 len) ++ items.drop (off + Nat.min len2 len))))] (0, 0)) (.int .i64 (Nat.min len2 len : Nat)) w := by
  subst hs2
  subst hs3
  obtain ⟨el, j, hu, hj, hj1, hj2, hj3, hj4, _⟩ := ti_slice ht hk
  have e1 : c.args = #[s, x] := by apply Array.ext'; simpa using hca
  have e2' : c.argTypes = #[t, t'] := by apply Array.ext'; simpa using hct
  have hs0 := hs
  simp only [rep] at hs
  obtain ⟨_, ad, cap, hsv, g1, g2, g3, _, g4⟩ := hs
  have hx0 := hx
  simp only [rep] at hx
  obtain ⟨k0, ad2, cap2, hxv, k1, k2, k3, k5, k4⟩ := hx
  have hmin : Nat.min len2 len ≤ len2 := Nat.min_le_left _ _
  have hmin2 : Nat.min len2 len ≤ len := Nat.min_le_right _ _
  have hxt : rep (cx w g F.hp) (.ref id2 ti.esz off2 (Nat.min len2 len) oc2) (.slice ad2 (Nat.min len2 len) cap2) := by
    simp only [rep]
    exact ⟨k0, ad2, cap2, rfl, by omega, k2, k3, k5, k4⟩
  have hsrc := srcD_ok hR (esz := ti.esz) (vx := Nat.beq ti.esz ti.esz && Nat.beq ti.esz ti.esz && Nat.ble (off2 + Nat.min len2 len) items2.length) (xs := (items2.drop off2).take (Nat.min len2 len)) (p := px) hxt (by simp only [srcD, hb2]) (by
    simp only [Bool.and_eq_true]; exact ⟨⟨Nat.beq_refl _, Nat.beq_refl _⟩, Nat.ble_eq_true_of_le hl2⟩)
  have hlen : ((items2.drop off2).take (Nat.min len2 len)).length = Nat.min len2 len := by simp only [List.length_take, List.length_drop]; omega
  obtain ⟨news, n1, n2, n3, n4⟩ := hsrc.first (P := P) (n := Nat.min len2 len) (by rw [hlen]; exact Nat.le_refl _)
  rw [List.take_of_length_le (by rw [hlen]; exact Nat.le_refl _)] at n4
  have n2' : (Builtin.firstCells ti.esz (min len2 len) (.slice ad2 len2 cap2)).run P w = .ok news.toArray w := by cases ad2 <;> exact n2
  have hsz : (sizeOf el).run P w = .ok ti.esz w := by simp [sizeOf, typeInfo, hj, hj1]
  have hrun0 : ∀ w', (match ad with | some ad => (storeCells ad news).run P w | none => .ok () w) = .ok () w' → (execOp a.eval o).run P w = .ok (.value (.int .i64 (Nat.min len2 len : Nat))) w' := by
    intro w' h
    unfold execOp
    cases ad with
    | none =>
      simp only at h
      cases h
      simp [ho, resolve, hc, e1, e2', hsv, hxv, invoke, builtin, Builtin.copy_, Builtin.lenOf, run_underlying hu, hsz, n2', goInt]
    | some ad =>
      simp only at h
      simp [ho, resolve, hc, e1, e2', hsv, hxv, invoke, builtin, Builtin.copy_, Builtin.lenOf, run_underlying hu, hsz, n2', goInt, h]
  have hd : ∀ C, rep C (.int .i64 (Nat.min len2 len : Nat)) (.int .i64 (Nat.min len2 len : Nat)) := by
    intro C
    simp only [rep]
    refine ⟨trivial, ?_, ?_⟩ <;> simp [IntKind.min, IntKind.max, IntKind.signed, IntKind.bits] <;> omega
  by_cases hz : Nat.min len2 len = 0
  · have hnn : news = [] := List.eq_nil_of_length_eq_zero (by rw [n1, hz]; simp)
    subst hnn
    have hit : items.take off ++ (items2.drop off2).take (Nat.min len2 len) ++ items.drop (off + Nat.min len2 len) = items := by
      rw [hz]; simp
    rw [hit]
    refine ⟨_, w, g, .inl (hrun0 w (by cases ad <;> rfl)), hd _, ?_⟩
    exact Rel.reword hR hb fun C hC h => arr_weak hC (by cases pu <;> cases px <;> simp) h
  · rcases g4 with g4 | ⟨b, T, nn, hσ, rfl, hsh, hnn⟩
    · omega
    rcases hR.mem.hd id _ hb with ⟨rfl, hσ0⟩ | ⟨b', cs, hσ', hblk, hszz, hel⟩
    · rw [hσ] at hσ0; cases hσ0
    have e' := hσ'.symm.trans hσ
    simp only [Option.some.injEq, Prod.mk.injEq] at e'
    obtain ⟨rfl, _⟩ := e'
    by_cases hcase : off + Nat.min len2 len ≤ items.length
    · exact leaves_mid hR (q := px) hb hσ' hblk hszz hel hcase hlen n1 n3 n4 (fun w' h => hrun0 w' h) hd
    · have hblk' : w.heap[b']? = some (.cells cs e (0, 0)) := hblk
      have hshe : (cx w g F.hp).w.shape? b' = some (e, cs.size) := by simp [cx, World.shape?, hblk']
      rw [hsh] at hshe
      simp only [Option.some.injEq, Prod.mk.injEq] at hshe
      refine leaves_end hR (q := px) hb hσ' hblk hel hl (by omega) ?_ hlen n1 n3 n4 (fun w' h => hrun0 w' h) hd
      rw [← hshe.2]
      refine Nat.le_trans ?_ hnn
      exact Nat.add_le_add_left (Nat.mul_le_mul_right _ (by omega)) _

theorem e_appendZg {o : Oper} {c : Call} {t t' : TypeId} {ti : TI} {s x : Operand} {k kn : IntKind} {m : Int} {id cap : Nat} {base : Option Addr} {p : Bool} {its : List D} (hn : F.nu id = true) (ho : o.op = .call c) (hc : c.callee = .builtin .append) (hca : c.args.toList = [s, x]) (hct : c.argTypes.toList = [t, t'])
    (ht : tiChk P t ti = true) (hk : ti.kind = 3) (ht' : P.underlying t' = some (.int kn)) (hsv : a.eval s = .slice base its.length cap) (hsrc : SrcV (cx w g F.hp) ti.esz its p (.slice base its.length cap))
    (hx : rep (cx w g F.hp) (.int k m) (a.eval x)) (h0 : 0 < m) (hlt : cap < its.length + m.toNat) (hbd : (its.length + m.toNat) * ti.eby ≤ 140737488355328) :
    Leaves P E n a o (F.eff [(id, some (.arr ti.el ti.esz p (its ++ List.replicate m.toNat (zeroEl ti))))] (id, id + 1)) (.ref id ti.esz 0 (its.length + m.toNat) none) w := by
  obtain ⟨el, j, hu, hj, hj1, hj2, hj3, hj4, ⟨z, hz, hzs, hzc, hza⟩, hel⟩ := ti_slice ht hk
  subst hel
  have e1 : c.args = #[s, x] := by apply Array.ext'; simpa using hca
  have e2' : c.argTypes = #[t, t'] := by apply Array.ext'; simpa using hct
  simp only [rep] at hx
  obtain ⟨hxv, _⟩ := hx
  have hmn : ((m.toNat : Nat) : Int) = m := Int.toNat_of_nonneg (by omega)
  have hbd2 : its.length + m.toNat ≤ 140737488355328 := by
    have : (its.length + m.toNat) * 1 ≤ (its.length + m.toNat) * ti.eby := Nat.mul_le_mul_left _ (by omega)
    omega
  obtain ⟨olds, hO, hOc⟩ := hsrc.src (P := P) (.inl ⟨ti.el, hu⟩)
  have hr0 := Go.Lib.run_append_grow_zeros (P := P) w t t' o.type ti.el j z k kn hu ht' hj hz base its.length cap olds (by rw [hj1]; exact hO.cellsD) m.toNat (by omega) (by omega) hlt (by omega) (by
    have : m.toNat * ti.eby ≤ (its.length + m.toNat) * ti.eby := Nat.mul_le_mul_right _ (by omega)
    rw [hj2]; omega) (growslice_fits (by omega) (by rw [hj2]; exact hbd))
  rw [hmn] at hr0
  have hr : (execOp a.eval o).run P w = .ok (.value (.slice (some ⟨w.heap.size, 0, none⟩) (its.length + m.toNat) (grownCap w (its.length + m.toNat) cap ti.el)))
      (w.drew.alloc (.cells (olds.toArray ++ Builtin.zeroCells z.cells m.toNat ++ Builtin.zeroCells z.cells (grownCap w (its.length + m.toNat) cap ti.el - (its.length + m.toNat))) ti.el)) := by
    unfold execOp; simp [ho, resolve, hc, e1, e2', hsv, hxv, invoke, builtin, hr0]
  have hge := grownCap_ge w (its.length + m.toNat) cap ti.el
  have hmx := grownCap_le_maxLen w (its.length + m.toNat) cap ti.el (by unfold maxLen; omega)
  unfold maxLen at hmx
  have hone : z.cells.toList.all (·.oneCell') = true := (zeroChk_one _ _ hzc).1
  have hzr : ∀ C : Cx, rep C (zeroEl ti) z := fun C => zeroEl_rep hzc hza
  have hzl : ∀ k, (Builtin.zeroCells z.cells k).toList = (List.replicate k z.cells.toList).flatten := by
    intro k
    have := range_zeros z.cells k
    unfold Builtin.zeroCells
    rw [this]
  have hlen2 : (its ++ List.replicate m.toNat (zeroEl ti)).length = its.length + m.toNat := by
    rw [List.length_append, List.length_replicate]
  rw [← hlen2]
  have := leaves_row (P := P) hR (o := o) (e := ti.el) (id := id) (esz := ti.esz) (ncap := grownCap w (its.length + m.toNat) cap ti.el) (its := its ++ List.replicate m.toNat (zeroEl ti)) (p := p) (kl := none) (oc := none)
    (cells := olds ++ (List.replicate m.toNat z.cells.toList).flatten) (rest := (Builtin.zeroCells z.cells (grownCap w (its.length + m.toNat) cap ti.el - (its.length + m.toNat))).toList) (w1 := w.drew) hn (Keep.refl _ w).drew rfl
    (by
      rw [hr, hlen2]
      congr 3
      apply Array.ext'
      simp [hzl])
    (by
      have hz0 : (Builtin.zeroCells z.cells (grownCap w (its.length + m.toNat) cap ti.el - (its.length + m.toNat))).toList.length = (grownCap w (its.length + m.toNat) cap ti.el - (its.length + m.toNat)) * ti.esz := by
        rw [← hj1, ← hzs, ← size_zeroCells]; exact Array.length_toList
      have hz1 : ((List.replicate m.toNat z.cells.toList).flatten).length = m.toNat * ti.esz := by simp [hzs, hj1]
      rw [List.length_append, hO.newsLen, hz0, hz1, ← Nat.add_mul, ← Nat.add_mul]
      congr 1; omega)
    (by omega) (by omega) (fun c h => by cases h)
    (by
      intro w' b' o' hr' C' hw hle
      refine elems_append _ _ _ _ _ (hOc w' b' o' ?_ C' hw hle) (carry_zero hzr (by omega) hone _ w' b' _ ?_ C' hw hle)
      · intro i u hi
        exact hr' i u (by rw [List.getElem?_append_left (List.getElem?_eq_some_iff.1 hi).1]; exact hi)
      · intro i u hi
        have := hr' (olds.length + i) u (by rw [List.getElem?_append_right (by omega), Nat.add_sub_cancel_left]; exact hi)
        rwa [show o' + (olds.length + i) = o' + its.length * ti.esz + i by rw [hO.newsLen]; omega] at this)
  simpa [kill] using this

theorem e_appendZ {o : Oper} {c : Call} {t t' : TypeId} {ti : TI} {s x : Operand} {k kn : IntKind} {m : Int} {id id' off len e' s'' cap : Nat} {p : Bool} {items : List D} (hn : F.nu id = true) (ho : o.op = .call c) (hc : c.callee = .builtin .append) (hca : c.args.toList = [s, x]) (hct : c.argTypes.toList = [t, t'])
    (ht : tiChk P t ti = true) (hk : ti.kind = 3) (ht' : P.underlying t' = some (.int kn)) (hs : rep (cx w g F.hp) (.ref id' ti.esz off len (some cap)) (a.eval s)) (hb : F.hp id' = some (.arr e' s'' p items)) (hs2 : s'' = ti.esz) (hl : off + len ≤ items.length)
    (hx : rep (cx w g F.hp) (.int k m) (a.eval x)) (h0 : 0 < m) (hlt : cap < len + m.toNat) (hbd : (len + m.toNat) * ti.eby ≤ 140737488355328) :
    Leaves P E n a o (F.eff [(id, some (.arr ti.el ti.esz p ((items.drop off).take len ++ List.replicate m.toNat (zeroEl ti))))] (id, id + 1)) (.ref id ti.esz 0 (len + m.toNat) none) w := by
  subst hs2
  have hs0 := hs
  simp only [rep] at hs
  obtain ⟨_, ad, cap', hsv, g1, g2, g3, g5, g4⟩ := hs
  have hcc := g5.1 cap rfl
  subst hcc
  have hlen : ((items.drop off).take len).length = len := by simp; omega
  have hsrc : SrcV (cx w g F.hp) ti.esz ((items.drop off).take len) p (.slice ad ((items.drop off).take len).length cap') := by
    rw [hlen]
    refine srcD_ok hR (esz := ti.esz) (dx := .ref id' ti.esz off len (some cap')) (vx := Nat.beq ti.esz ti.esz && Nat.beq ti.esz ti.esz && Nat.ble (off + len) items.length) (by rw [← hsv]; exact hs0) ?_ ?_
    · simp only [srcD, hb]
    · simp only [Bool.and_eq_true]
      exact ⟨⟨Nat.beq_refl _, Nat.beq_refl _⟩, Nat.ble_eq_true_of_le hl⟩
  have := e_appendZg hR hn ho hc hca hct ht hk ht' (its := (items.drop off).take len) (by rw [hlen]; exact hsv) hsrc hx h0 (by rw [hlen]; exact hlt) (by rw [hlen]; exact hbd)
  rw [hlen] at this
  exact this
end
end Go.Tm

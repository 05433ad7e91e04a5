/- The abstract operation is sound. -/
import Derived.Test.YtinlknpgmelicaaTmEff7
import Derived.Test.YtinlknpgmelicaaTmEq
namespace Go.Tm
open Go.RowKit Go.WideShapes
set_option linter.unusedSimpArgs false

def TabOk (P : Program) (tab : Nat → TI) : Prop := (∀ t, (tab t).kind ≠ 0 → tiChk P t (tab t) = true) ∧ ∀ t, (tab t).eqs = true → eqsChk P t (tab t) = true

theorem optRep {C : Cx} {a : Act} {rd : Nat → D} (hr : ∀ t, rep C (rd t) (a.eval (.tmp t))) {x : Option Operand} {d : Option D} {p : Bool} (hx : ∀ y ∈ x.toList, operandOk y = true) (h : opdO true rd x = (d, p)) (hp : p = true) : OptRep C a x d := by
  cases x with
  | none => simp only [opdO, Prod.mk.injEq] at h; obtain ⟨rfl, _⟩ := h; trivial
  | some y =>
    simp only [opdO] at h
    cases h1 : opd true rd y with
    | mk d' p' =>
      rw [h1] at h
      cases h
      exact rep_opd hr (hx y (by simp)) h1 hp rfl

theorem ti_int' {P : Program} {t : TypeId} {ti : TI} (h : tiChk P t ti = true) (hk : ti.kind = 6) : ∃ k, P.underlying t = some (.int k) := by
  obtain ⟨i, d, _, hd, hs, _, hm⟩ := tiChk_parts h
  cases d <;> simp only [hk] at hm <;> try (first | exact hm.elim | (exfalso; omega) | (exfalso; have := hm.1; omega))
  exact ⟨_, hd⟩

theorem sliceD_same {L L' : Int} {lo : Option D} {y : D} {i j i' j' : Int} {v v' : Bool} (h : sliceD L lo (some y) = some (i, j, v)) (h' : sliceD L' lo (some y) = some (i', j', v')) : i' = i ∧ j' = j := by
  unfold sliceD at h h'
  cases lo with
  | none =>
    cases y <;> simp only [reduceCtorEq, Option.some.injEq, Prod.mk.injEq] at h h'
    obtain ⟨rfl, rfl, _⟩ := h
    obtain ⟨rfl, rfl, _⟩ := h'
    exact ⟨rfl, rfl⟩
  | some z =>
    cases z <;> cases y <;> simp only [reduceCtorEq, Option.some.injEq, Prod.mk.injEq] at h h'
    obtain ⟨rfl, rfl, _⟩ := h
    obtain ⟨rfl, rfl, _⟩ := h'
    exact ⟨rfl, rfl⟩

theorem kd {k : Nat} (h : (!(k == 0)) = true) : k ≠ 0 := by simpa using h

section
variable {P : Program} {tab : Nat → TI} {E : En} {n : Nat} {F : FrS} {a : Act} {w : World} {g : Gh}

theorem key_ok (hT : TabOk P tab) {t : TypeId} (hk : (tab t).kind = 9) {k : D} (hkd : keyD (tab (tab t).el) k = true) :
    ∀ kt vt td, P.underlying t = some (.map kt vt) → P.underlying kt = some td → (∃ i n, k = .int i n ∧ ∃ j, td = .int j) ∨ ∃ l, k = .str l ∧ td = .string := by
  intro kt vt td hu htd
  have hel : (tab t).el = kt := by
    obtain ⟨i, d, _, hd, _, _, hm⟩ := tiChk_parts (hT.1 t (by omega))
    rw [hu] at hd
    cases hd
    exact hm.2.1
  cases k <;> simp only [keyD, Bool.false_eq_true, beq_iff_eq] at hkd
  · rename_i i n
    obtain ⟨j, hj⟩ := ti_int' (hT.1 (tab t).el (by omega)) hkd
    rw [hel, htd] at hj
    exact .inl ⟨i, n, rfl, j, Option.some.inj hj⟩
  · rename_i l
    have hj := ti_string (hT.1 (tab t).el (by omega)) hkd
    rw [hel, htd] at hj
    exact .inr ⟨l, rfl, Option.some.inj hj⟩

/-- a capacity that is surely more than zero -/
theorem roomNZ_pos {id s off len : Nat} {oc : Option Nat} {ad : Option Addr} {cap : Nat} (hR : Rel E n F a w g) (h : roomNZ F.hp (.ref id s off len oc) = true) (hx : rep (cx w g F.hp) (.ref id s off len oc) (.slice ad len cap)) : 0 < cap := by
  cases oc with
  | none =>
    simp only [roomNZ] at h
    split at h
    · rename_i e s' pu items hb
      simp only [Bool.and_eq_true, Bool.not_eq_true'] at h
      obtain ⟨⟨b1, b2⟩, b3⟩ := h
      have := ref_room hR hx hb (Nat.eq_of_beq_eq_true b1) (by rintro rfl; simp at b2)
      have := Nat.le_of_ble_eq_true b3
      omega
    · cases h
  | some c =>
    simp only [roomNZ] at h
    simp only [rep] at hx
    obtain ⟨_, _, _, hv', _, _, _, goc, _⟩ := hx
    simp only [Value.slice.injEq] at hv'
    obtain ⟨_, _, rfl⟩ := hv'
    have := goc.1 _ rfl
    have := Nat.le_of_ble_eq_true h
    omega

theorem aop_sound (hT : TabOk P tab) {own : Bool} {o : Oper} {nid : Nat} {out : Out} (hok : opOk o.op = true) (hR : Rel E n F a w g) (hn : out.nw = (nid, nid + 1) → F.nu nid = true) (h : aop tab own o.op nid true F.rd F.hp = some out) (hv : out.vc = true) :
    Leaves P E n a o (F.eff out.eff out.nw) out.d w := by
  have hrd := hR.rd
  have hx1 : ∀ x ∈ o.op.operands.toList, operandOk x = true := fun x hx => List.all_eq_true.1 hok x hx
  have rp : ∀ {x : Operand} {d : D} {p : Bool}, x ∈ o.op.operands.toList → opd true F.rd x = (d, p) → p = true → rep (cx w g F.hp) d (a.eval x) := fun hx he hp => rep_opd hrd (hx1 _ hx) he hp rfl
  cases ho : o.op with
  | move x =>
    rw [ho] at h rp
    simp only [aop] at h
    cases h1 : opd true F.rd x with
    | mk d p =>
      rw [h1] at h; cases h
      exact leaves_quiet hR (q_move hrd (.inl ho) (hx1 x (by rw [ho]; simp [Op.operands])) h1 hv)
  | assign x =>
    rw [ho] at h rp
    simp only [aop] at h
    cases h1 : opd true F.rd x with
    | mk d p =>
      rw [h1] at h; cases h
      exact leaves_quiet hR (q_move hrd (.inr ho) (hx1 x (by rw [ho]; simp [Op.operands])) h1 hv)
  | pick c x y =>
    rw [ho] at h rp
    simp only [aop] at h
    cases h1 : opd true F.rd c with
    | mk d p =>
      rw [h1] at h
      cases d <;> simp only [reduceCtorEq] at h
      rename_i b0
      simp only [Bool.true_and] at h
      cases h2 : opd b0 F.rd x with
      | mk da pa =>
        cases h3 : opd (!b0) F.rd y with
        | mk db pb =>
          rw [h2, h3] at h
          simp only at h
          split at h
          · rename_i d hd
            cases h
            simp only [Bool.and_eq_true] at hv
            exact leaves_quiet hR (q_pick hrd ho (hx1 c (by rw [ho]; simp [Op.operands])) (hx1 x (by rw [ho]; simp [Op.operands])) (hx1 y (by rw [ho]; simp [Op.operands])) h1 hv.1.1 h2 hv.1.2 h3 hv.2 hd)
          · cases h
  | alloc t =>
    rw [ho] at h
    simp only [aop, Option.some.injEq] at h
    subst h
    exact e_alloc hR (hn rfl) ho (hT.1 t (kd hv))
  | box t x =>
    rw [ho] at h rp
    simp only [aop] at h
    cases h1 : opd true F.rd x with
    | mk d p =>
      rw [h1] at h; cases h
      simp only [Bool.and_eq_true, Bool.not_eq_true', List.isEmpty_eq_false_iff] at hv
      obtain ⟨⟨v1, v2⟩, v4⟩ := hv
      exact e_box hR (hn rfl) ho (rp (by simp [Op.operands]) h1 v1) v2 v4
  | build t ps =>
    rw [ho] at h
    simp only [aop] at h
    cases h1 : opdsL true F.rd ps.toList with
    | mk ds p =>
      rw [h1] at h
      simp only at h
      split at h
      · rename_i c q hf
        cases h
        simp only [Bool.and_eq_true, beq_iff_eq] at hv
        obtain ⟨⟨v1, v2⟩, v3⟩ := hv
        obtain ⟨g1, g2⟩ := reps_opdsL hrd _ _ _ h1 v1 (by
          have := hok; rw [opOk, ho] at this; simpa [Op.operands] using this)
        exact leaves_quiet hR (q_build ho (hT.1 t (by omega)) v3 g1 g2 hf v2)
      · cases h
  | buildSlice t len ps =>
    rw [ho] at h
    simp only [aop] at h
    cases h1 : opds true F.rd (ps.toList.map (·.2)) with
    | mk ds p =>
      rw [h1] at h
      simp only at h
      cases hown : (own && !ds.isEmpty) with
      | true =>
        simp only [hown, cond_true, Option.some.injEq] at h
        subst h
        simp only [Bool.and_eq_true, beq_iff_eq, decide_eq_true_eq] at hv
        obtain ⟨⟨⟨⟨v1, v2⟩, v3⟩, v4⟩, v6⟩ := hv
        have g1 := reps_opds hrd _ _ _ h1 v1 (by have := hok; rw [opOk, ho] at this; simpa [Op.operands] using this)
        exact e_buildOwn hR (hn rfl) ho (hT.1 t (by omega)) v2 (by rw [List.map_map] at g1; exact g1) v3 v4 v6
      | false =>
        simp only [hown, cond_false, Option.some.injEq] at h
        subst h
        simp only [Bool.and_eq_true, beq_iff_eq, decide_eq_true_eq] at hv
        obtain ⟨⟨⟨⟨⟨⟨v1, v2⟩, v3⟩, v4⟩, v5⟩, v6⟩, v7⟩ := hv
        have g1 := reps_opds hrd _ _ _ h1 v1 (by have := hok; rw [opOk, ho] at this; simpa [Op.operands] using this)
        exact e_buildImm hR ho (hT.1 t (by omega)) v2 (by rw [List.map_map] at g1; exact g1) v3 v4 v5 v6 v7
  | load t x =>
    rw [ho] at h rp
    simp only [aop] at h
    cases h1 : opd true F.rd x with
    | mk d p =>
      rw [h1] at h
      simp only at h
      split at h
      · rename_i r q hl
        cases h
        simp only [Bool.and_eq_true] at hv
        exact leaves_quiet hR (q_load hR ho (hT.1 t (kd hv.2)) (rp (by simp [Op.operands]) h1 hv.1.1) hl hv.1.2)
      · cases h
  | store t x y =>
    rw [ho] at h rp
    simp only [aop] at h
    cases h1 : opd true F.rd x with
    | mk dx p =>
      cases h2 : opd true F.rd y with
      | mk dy q =>
        rw [h1, h2] at h
        simp only at h
        split at h
        · rename_i r id blk hs
          cases h
          simp only [Bool.and_eq_true] at hv
          obtain ⟨⟨⟨⟨v1, v2⟩, v3⟩, v4⟩, v5⟩ := hv
          have v5 := kd v5
          have rx := rp (by simp [Op.operands]) h1 v1
          have ry := rp (by simp [Op.operands]) h2 v2
          unfold storeD at hs
          split at hs
          · split at hs
            · rename_i off cs hb
              cases hs
              simp only [Bool.and_eq_true] at v3
              obtain ⟨⟨w1, w2⟩, w3⟩ := v3
              exact e_store_box hR ho (hT.1 t (kd v4)) rx ry hb (Nat.eq_of_beq_eq_true w1) (Nat.le_of_ble_eq_true w2) w3 v5
            · cases hs
          · split at hs
            · rename_i s i off e s' pp items hb
              cases hs
              simp only [Bool.and_eq_true] at v3
              obtain ⟨⟨⟨⟨w1, w2⟩, w3⟩, w4⟩, w5⟩ := v3
              obtain rfl := Nat.eq_of_beq_eq_true w2
              exact e_store_arr hR ho (hT.1 t (kd v4)) rx ry hb (Nat.eq_of_beq_eq_true w1) (Nat.le_of_ble_eq_true w3) (Nat.le_of_ble_eq_true w4) w5 v5
            · cases hs
          · cases hs
        · cases h
  | nilCheck x =>
    rw [ho] at h rp
    simp only [aop] at h
    cases h1 : opd true F.rd x with
    | mk d p =>
      rw [h1] at h
      cases d <;> simp only [reduceCtorEq] at h <;> cases h
      · exact leaves_quiet hR (q_nilCheck ho (rp (by simp [Op.operands]) h1 hv) (.inl ⟨_, _, rfl⟩))
      · exact leaves_quiet hR (q_nilCheck ho (rp (by simp [Op.operands]) h1 hv) (.inr (.inl ⟨_, _, _, _, rfl⟩)))
      · exact leaves_quiet hR (q_nilCheck ho (rp (by simp [Op.operands]) h1 hv) (.inr (.inr ⟨_, _, rfl⟩)))
  | fieldAddr t x f =>
    rw [ho] at h rp
    simp only [aop] at h
    cases h1 : opd true F.rd x with
    | mk d p =>
      cases h2 : (tab t).offs[f]? with
      | none => rw [h1, h2] at h; cases d <;> simp at h
      | some z =>
        obtain ⟨off, sz, ag⟩ := z
        rw [h1, h2] at h
        cases d <;> simp only [reduceCtorEq] at h <;> cases h <;> simp only [Bool.and_eq_true, beq_iff_eq] at hv
        · exact leaves_quiet hR (q_fieldAddr ho (hT.1 t (by have := hv.2; omega)) hv.2 h2 (rp (by simp [Op.operands]) h1 hv.1) (.inl ⟨_, _, rfl, rfl⟩))
        · exact leaves_quiet hR (q_fieldAddr ho (hT.1 t (by have := hv.2; omega)) hv.2 h2 (rp (by simp [Op.operands]) h1 hv.1) (.inr (.inl ⟨_, _, _, _, rfl, rfl⟩)))
        · exact leaves_quiet hR (q_fieldAddr ho (hT.1 t (by have := hv.2; omega)) hv.2 h2 (rp (by simp [Op.operands]) h1 hv.1.1) (.inr (.inr ⟨_, _, rfl, rfl, Nat.le_of_ble_eq_true hv.1.2⟩)))
  | field t x f =>
    rw [ho] at h rp
    simp only [aop] at h
    cases h1 : opd true F.rd x with
    | mk d p =>
      cases h2 : (tab t).offs[f]? with
      | none => rw [h1, h2] at h; cases d <;> simp at h
      | some z =>
        obtain ⟨off, sz, ag⟩ := z
        rw [h1, h2] at h
        cases d <;> simp only [reduceCtorEq] at h
        split at h
        · rename_i hd
          cases h
          simp only [Bool.and_eq_true, beq_iff_eq] at hv
          exact leaves_quiet hR (q_field ho (hT.1 t (by have := hv.2; omega)) hv.2 h2 (rp (by simp [Op.operands]) h1 hv.1.1) hd)
        · cases h
  | indexAddr t x i =>
    rw [ho] at h rp
    simp only [aop] at h
    cases h1 : opd true F.rd x with
    | mk dx p =>
      cases h2 : opd true F.rd i with
      | mk di q =>
        rw [h1, h2] at h
        cases dx <;> cases di <;> simp only [reduceCtorEq] at h <;> cases h <;> simp only [Bool.and_eq_true, beq_iff_eq, decide_eq_true_eq] at hv
        · obtain ⟨⟨⟨⟨⟨⟨v1, v2⟩, v3⟩, v4⟩, v5⟩, v6⟩, v7⟩ := hv
          exact leaves_quiet hR (q_indexAddr_imm hR ho (hT.1 t (by omega)) v6 (rp (by simp [Op.operands]) h1 v1) (rp (by simp [Op.operands]) h2 v2) v3 v4 (Nat.eq_of_beq_eq_true v5) (Nat.le_of_ble_eq_true v7))
        · obtain ⟨⟨⟨⟨⟨v1, v2⟩, v3⟩, v4⟩, v5⟩, v6⟩ := hv
          exact leaves_quiet hR (q_indexAddr_ref ho (hT.1 t (by omega)) v6 (rp (by simp [Op.operands]) h1 v1) (rp (by simp [Op.operands]) h2 v2) v3 v4 (Nat.eq_of_beq_eq_true v5))
  | index t x i =>
    rw [ho] at h rp
    simp only [aop] at h
    cases h1 : opd true F.rd x with
    | mk dx p =>
      cases h2 : opd true F.rd i with
      | mk di q =>
        rw [h1, h2] at h
        cases dx <;> cases di <;> simp only [reduceCtorEq] at h <;> cases h
        simp only [Bool.and_eq_true, beq_iff_eq, decide_eq_true_eq] at hv
        obtain ⟨⟨⟨⟨v1, v2⟩, v3⟩, v4⟩, v5⟩ := hv
        exact leaves_quiet hR (q_index ho (hT.1 t (by omega)) v5 (rp (by simp [Op.operands]) h1 v1) (rp (by simp [Op.operands]) h2 v2) v3 v4)
  | slice t x lo hi mx =>
    rw [ho] at h rp
    have ml : ∀ y ∈ lo.toList, operandOk y = true := fun y hy => hx1 y (by rw [ho]; simp [Op.operands] at hy ⊢; simp [hy])
    have mh : ∀ y ∈ hi.toList, operandOk y = true := fun y hy => hx1 y (by rw [ho]; simp [Op.operands] at hy ⊢; simp [hy])
    cases mx with
    | some m =>
      simp only [aop] at h
      cases h1 : opd true F.rd x with
      | mk dx p =>
        cases h2 : opdO true F.rd lo with
        | mk dlo q =>
          cases h3 : opdO true F.rd hi with
          | mk dhi r =>
            cases h4 : opd true F.rd m with
            | mk dm u =>
              rw [h1, h2, h3, h4] at h
              cases dx <;> simp only [reduceCtorEq] at h
              · split at h
                · rename_i i j k v hs
                  cases h
                  simp only [Bool.and_eq_true, beq_iff_eq] at hv
                  obtain ⟨⟨⟨⟨⟨⟨v1, v2⟩, v3⟩, v4⟩, v5⟩, v6⟩, v7⟩ := hv
                  exact leaves_quiet hR (q_slice3_imm ho (hT.1 t (by omega)) v7 (rep_immE (rp (by simp [Op.operands]) h1 v1) v6) (optRep hrd ml h2 v2) (optRep hrd mh h3 v3) (rp (by simp [Op.operands]) h4 v4) hs v5 rfl)
                · cases h
              · split at h
                · rename_i i j k v hs
                  cases h
                  simp only [Bool.and_eq_true, beq_iff_eq] at hv
                  obtain ⟨⟨⟨⟨⟨⟨v1, v2⟩, v3⟩, v4⟩, v5⟩, v6⟩, v7⟩ := hv
                  rename_i id s off len oc _
                  have hxr := rp (by simp [Op.operands]) h1 v1
                  cases hnn : (decide (i = k) && (Nat.blt 0 len || roomNZ F.hp (.ref id s off len oc))) with
                  | false =>
                    simp only [hnn, cond_false]
                    cases oc with
                    | none => exact leaves_quiet hR (q_slice3_ref (L := len) ho (hT.1 t (by omega)) v7 hxr (optRep hrd ml h2 v2) (optRep hrd mh h3 v3) (rp (by simp [Op.operands]) h4 v4) hs v5 (Nat.eq_of_beq_eq_true v6) (.inl rfl))
                    | some c => exact leaves_quiet hR (q_slice3_ref (L := c) ho (hT.1 t (by omega)) v7 hxr (optRep hrd ml h2 v2) (optRep hrd mh h3 v3) (rp (by simp [Op.operands]) h4 v4) hs v5 (Nat.eq_of_beq_eq_true v6) (.inr rfl))
                  | true =>
                    simp only [hnn, cond_true]
                    simp only [Bool.and_eq_true, decide_eq_true_eq, Bool.or_eq_true] at hnn
                    have hnz : ∀ ad cap, a.eval x = .slice ad len cap → 0 < cap := by
                      intro ad cap he
                      rcases hnn.2 with h0 | h0
                      · rw [he] at hxr
                        simp only [rep] at hxr
                        obtain ⟨_, _, _, hv', g1, _⟩ := hxr
                        simp only [Value.slice.injEq] at hv'
                        obtain ⟨_, _, rfl⟩ := hv'
                        have := Nat.le_of_ble_eq_true h0
                        omega
                      · exact roomNZ_pos hR h0 (he ▸ hxr)
                    cases oc with
                    | none => exact leaves_quiet hR (q_slice3_refn (L := len) ho (hT.1 t (by omega)) v7 hxr (optRep hrd ml h2 v2) (optRep hrd mh h3 v3) (rp (by simp [Op.operands]) h4 v4) hs v5 (Nat.eq_of_beq_eq_true v6) (.inl rfl) hnn.1 hnz)
                    | some c => exact leaves_quiet hR (q_slice3_refn (L := c) ho (hT.1 t (by omega)) v7 hxr (optRep hrd ml h2 v2) (optRep hrd mh h3 v3) (rp (by simp [Op.operands]) h4 v4) hs v5 (Nat.eq_of_beq_eq_true v6) (.inr rfl) hnn.1 hnz)
                · cases h
    | none =>
    simp only [aop] at h
    cases h1 : opd true F.rd x with
    | mk dx p =>
      cases h2 : opdO true F.rd lo with
      | mk dlo q =>
        cases h3 : opdO true F.rd hi with
        | mk dhi r =>
          rw [h1, h2, h3] at h
          cases dx <;> simp only [reduceCtorEq] at h
          · split at h
            · rename_i i j v hs
              cases h
              simp only [Bool.and_eq_true, beq_iff_eq] at hv
              obtain ⟨⟨⟨⟨v1, v2⟩, v3⟩, v4⟩, v5⟩ := hv
              exact leaves_quiet hR (q_slice_str ho (hT.1 t (by omega)) v5 (rp (by simp [Op.operands]) h1 v1) (optRep hrd ml h2 v2) (optRep hrd mh h3 v3) hs v4)
            · cases h
          · split at h
            · rename_i i j v hs
              cases h
              simp only [Bool.and_eq_true, beq_iff_eq] at hv
              obtain ⟨⟨⟨⟨⟨v1, v2⟩, v3⟩, v4⟩, v5⟩, v6⟩ := hv
              exact leaves_quiet hR (q_slice_imm ho (hT.1 t (by omega)) v6 (rep_immE (rp (by simp [Op.operands]) h1 v1) v5) (optRep hrd ml h2 v2) (optRep hrd mh h3 v3) hs v4 rfl)
            · cases h
          · rename_i id s off len oc
            split at h
            · rename_i i j v hs
              cases h
              simp only [Bool.and_eq_true, beq_iff_eq] at hv
              obtain ⟨⟨⟨⟨⟨v1, v2⟩, v3⟩, v4⟩, v5⟩, v6⟩ := hv
              have hxr := rp (by simp [Op.operands]) h1 v1
              have key : ∀ (L : Nat) (v' : Bool), sliceD (L : Nat) dlo dhi = some (i, j, v') → v' = true → (L = len ∨ (∀ ad cap, a.eval x = .slice ad len cap → L ≤ cap) ∧ dhi ≠ none) → Leaves P E n a o (F.eff [] (0, 0)) (.ref id s (off + i.toNat) (j - i).toNat (capS oc i.toNat)) w :=
                fun L v' hs' hv' hL => leaves_quiet hR (q_slice_ref ho (hT.1 t (by omega)) v6 hxr (optRep hrd ml h2 v2) (optRep hrd mh h3 v3) hs' hv' (Nat.eq_of_beq_eq_true v5) hL)
              cases hvv : v with
              | true => exact key len v hs hvv (.inl rfl)
              | false =>
                rw [hvv] at v4
                simp only [Bool.false_or, Bool.and_eq_true] at v4
                obtain ⟨k1, k2⟩ := v4
                cases dhi with
                | none => cases k1
                | some y =>
                  unfold roomV at k2
                  cases oc with
                  | some c0 =>
                    simp only at k2
                    split at k2
                    · rename_i i' j' v' hs'
                      obtain ⟨rfl, rfl⟩ := sliceD_same hs hs'
                      refine key c0 v' hs' k2 (.inr ⟨fun ad cap he => ?_, by simp⟩)
                      rw [he] at hxr
                      simp only [rep] at hxr
                      obtain ⟨_, _, _, hv', _, _, _, goc, _⟩ := hxr
                      simp only [Value.slice.injEq] at hv'
                      obtain ⟨_, _, rfl⟩ := hv'
                      exact Nat.le_of_eq (goc.1 _ rfl).symm
                    · cases k2
                  | none =>
                    simp only at k2
                    split at k2
                    · rename_i e s' pu items hb
                      simp only [Bool.and_eq_true, Bool.not_eq_true'] at k2
                      obtain ⟨⟨⟨b1, b2⟩, b3⟩, b4⟩ := k2
                      split at b4
                      · rename_i i' j' v' hs'
                        obtain ⟨rfl, rfl⟩ := sliceD_same hs hs'
                        refine key (items.length - off) v' hs' b4 (.inr ⟨fun ad cap he => ?_, by simp⟩)
                        rw [he] at hxr
                        have := ref_room hR hxr hb (Nat.eq_of_beq_eq_true b1) (by rintro rfl; simp at b2)
                        omega
                      · cases b4
                    · cases k2
            · cases h
  | extract x i =>
    rw [ho] at h rp
    simp only [aop] at h
    cases h1 : opd true F.rd x with
    | mk d p =>
      rw [h1] at h
      cases d <;> simp only [reduceCtorEq] at h
      split at h
      · rename_i hd
        cases h
        exact leaves_quiet hR (q_extract ho (rp (by simp [Op.operands]) h1 hv) hd)
      · cases h
  | makeFunc f first caps =>
    rw [ho] at h
    simp only [aop] at h
    cases h1 : opds true F.rd caps.toList with
    | mk ds p =>
      rw [h1] at h
      cases hf : first.toList with
      | cons y ys => rw [hf] at h; simp at h
      | nil =>
        rw [hf] at h
        cases h
        have hfe : first = #[] := by apply Array.ext'; simpa using hf
        subst hfe
        exact leaves_quiet hR (q_makeFunc ho (reps_opds hrd _ _ _ h1 hv (by have := hok; rw [opOk, ho] at this; simpa [Op.operands] using this)))
  | makeInterface t x =>
    rw [ho] at h rp
    simp only [aop] at h
    cases h1 : opd true F.rd x with
    | mk d p =>
      rw [h1] at h; cases h
      simp only [Bool.and_eq_true] at hv
      exact leaves_quiet hR (q_makeInterface ho (hT.1 t (kd hv.1.2)) (by have := hv.2; simpa using this) (rp (by simp [Op.operands]) h1 hv.1.1))
  | makeSlice t x y =>
    rw [ho] at h rp
    simp only [aop] at h
    cases h1 : opd true F.rd x with
    | mk dx p =>
      cases h2 : opd true F.rd y with
      | mk dy q =>
        rw [h1, h2] at h
        cases dx <;> cases dy <;> simp only [reduceCtorEq] at h
        cases h
        simp only [Bool.and_eq_true, beq_iff_eq, decide_eq_true_eq] at hv
        obtain ⟨⟨⟨⟨⟨⟨⟨⟨v1, v2⟩, v3⟩, v4⟩, v5⟩, v6⟩, v7⟩, _⟩, _⟩ := hv
        exact e_makeSlice hR (hn rfl) ho (hT.1 t (by omega)) v7 (rp (by simp [Op.operands]) h1 v1) (rp (by simp [Op.operands]) h2 v2) v3 v4 v5 v6
  | makeMap t r =>
    rw [ho] at h
    simp only [aop] at h
    cases h1 : opdO true F.rd r with
    | mk d p =>
      rw [h1] at h
      cases r with
      | none =>
        simp only [opdO, Prod.mk.injEq] at h1
        obtain ⟨rfl, rfl⟩ := h1
        simp only [Option.some.injEq] at h
        subst h
        exact e_makeMap hR (ti := tab t) (hn rfl) ho (.inl rfl)
      | some y =>
        simp only [opdO] at h1
        cases h2 : opd true F.rd y with
        | mk dy q =>
          rw [h2] at h1
          simp only [Prod.mk.injEq] at h1
          obtain ⟨rfl, rfl⟩ := h1
          cases dy <;> simp only [reduceCtorEq] at h
          cases h
          simp only [Bool.and_eq_true, beq_iff_eq] at hv
          exact e_makeMap hR (hn rfl) ho (.inr ⟨y, _, _, rfl, rep_opd hrd (hx1 y (by rw [ho]; simp [Op.operands])) h2 hv.1 rfl, hT.1 t (by omega), hv.2⟩)
  | lookup t x i ok =>
    rw [ho] at h rp
    simp only [aop] at h
    cases h1 : opd true F.rd x with
    | mk dx p =>
      cases h2 : opd true F.rd i with
      | mk k q =>
        rw [h1, h2] at h
        cases dx <;> simp only [reduceCtorEq] at h
        · rename_i id
          split at h
          · rename_i es hb
            split at h
            · rename_i r hf
              cases h
              simp only [Bool.and_eq_true, beq_iff_eq] at hv
              obtain ⟨⟨⟨v1, v2⟩, v3⟩, v4⟩ := hv
              exact leaves_quiet hR (q_lookup hR ho (hT.1 t (by omega)) v3 (rp (by simp [Op.operands]) h1 v1) (rp (by simp [Op.operands]) h2 v2) (.inr ⟨id, es, rfl, hb, hf⟩) (key_ok hT v3 v4))
            · cases h
          · cases h
        · cases h
          simp only [Bool.and_eq_true, beq_iff_eq] at hv
          obtain ⟨⟨⟨v1, v2⟩, v3⟩, v4⟩ := hv
          exact leaves_quiet hR (q_lookup (r := none) hR ho (hT.1 t (by omega)) v3 (rp (by simp [Op.operands]) h1 v1) (rp (by simp [Op.operands]) h2 v2) (.inl ⟨rfl, rfl⟩) (key_ok hT v3 v4))
  | mapUpdate t x i y =>
    rw [ho] at h rp
    simp only [aop] at h
    cases h1 : opd true F.rd x with
    | mk dx p =>
      cases h2 : opd true F.rd i with
      | mk k q =>
        cases h3 : opd true F.rd y with
        | mk v r =>
          rw [h1, h2, h3] at h
          cases dx <;> simp only [reduceCtorEq] at h
          split at h
          · rename_i es hb
            split at h
            · rename_i es' hf
              cases h
              simp only [Bool.and_eq_true, beq_iff_eq] at hv
              obtain ⟨⟨⟨⟨v1, v2⟩, v3⟩, v4⟩, v5⟩ := hv
              exact e_mapUpdate hR (.inl ho) (hT.1 t (by omega)) v4 (rp (by simp [Op.operands]) h1 v1) (rp (by simp [Op.operands]) h2 v2) (rp (by simp [Op.operands]) h3 v3) hb hf (key_ok hT v4 v5)
            · cases h
          · cases h
  | insert t x i y =>
    rw [ho] at h rp
    simp only [aop] at h
    cases h1 : opd true F.rd x with
    | mk dx p =>
      cases h2 : opd true F.rd i with
      | mk k q =>
        cases h3 : opd true F.rd y with
        | mk v r =>
          rw [h1, h2, h3] at h
          cases dx <;> simp only [reduceCtorEq] at h
          split at h
          · rename_i es hb
            split at h
            · rename_i es' hf
              cases h
              simp only [Bool.and_eq_true, beq_iff_eq] at hv
              obtain ⟨⟨⟨⟨v1, v2⟩, v3⟩, v4⟩, v5⟩ := hv
              exact e_mapUpdate hR (.inr ho) (hT.1 t (by omega)) v4 (rp (by simp [Op.operands]) h1 v1) (rp (by simp [Op.operands]) h2 v2) (rp (by simp [Op.operands]) h3 v3) hb hf (key_ok hT v4 v5)
            · cases h
          · cases h
  | convert t' t x =>
    rw [ho] at h rp
    simp only [aop] at h
    cases h1 : opd true F.rd x with
    | mk d p =>
      rw [h1] at h
      have text : ∀ {d : D}, opd true F.rd x = (d, p) → (∀ l, d ≠ .str l) → (match srcD F.hp 1 d with
          | some (xs, _, q) => match bytesD xs with
            | some l => some ({ d := .str l, vc := p && q && (tab t).kind == 5 && (tab t').kind == 3 && (tab (tab t').el).ik == some .u8 && (tab (tab t').el).kind == 6 } : Out)
            | none => none
          | none => none) = some out → Leaves P E n a o (F.eff out.eff out.nw) out.d w := by
        intro d h1 hns h
        split at h
        · rename_i xs pp q hsd
          split at h
          · rename_i l hl
            cases h
            simp only [Bool.and_eq_true, beq_iff_eq] at hv
            obtain ⟨⟨⟨⟨⟨v1, v2⟩, v3⟩, v4⟩, v5⟩, v6⟩ := hv
            have hr := rp (by simp [Op.operands]) h1 v1
            have hlen : ((xs.length : Nat) : Int) ≤ 9223372036854775807 := by
              have := srcD_ok hR hr hsd v2
              cases d <;> simp only [srcD, reduceCtorEq] at hsd
              · exact absurd rfl (hns _)
              · simp only [rep] at hr
                obtain ⟨ad, cap, _, g1, g2, _⟩ := hr
                cases hsd
                rw [mkZL_length]; omega
              · simp only [rep] at hr
                obtain ⟨_, ad, cap, _, g1, g2, _⟩ := hr
                split at hsd
                · cases hsd
                  simp; omega
                · cases hsd
            refine leaves_quiet hR (q_convText (C := cx w g F.hp) rfl ho (hT.1 t (by omega)) v3 (hT.1 t' (by omega)) v4 (hT.1 _ (by omega)) v6 v5 (srcD_ok hR hr hsd v2) ?_ hl hlen)
            intro s hs
            rw [hs] at hr
            cases d <;> simp only [srcD, reduceCtorEq] at hsd <;> simp only [rep] at hr
            · exact absurd rfl (hns _)
            · obtain ⟨_, _, h, _⟩ := hr; cases h
            · obtain ⟨_, _, _, h, _⟩ := hr; cases h
          · cases h
        · cases h
      cases d
      case int k m =>
        simp only at h
        split at h
        · rename_i k' hk
          cases h
          simp only [Bool.and_eq_true, beq_iff_eq] at hv
          exact leaves_quiet hR (q_convert ho (hT.1 t (by omega)) (hT.1 t' (kd hv.2)) hv.1.2 hk (rp (by simp [Op.operands]) h1 hv.1.1))
        · cases h
      case str l =>
        simp only at h
        cases hk : ((tab t).kind == 5)
        · rw [hk] at h
          simp only [cond_false, Option.some.injEq] at h
          subst h
          simp only [Bool.and_eq_true, beq_iff_eq] at hv
          obtain ⟨⟨⟨⟨v1, v2⟩, v3⟩, v4⟩, v5⟩ := hv
          exact e_convBytes hR ho (hT.1 t (by omega)) v3 (hT.1 _ (by omega)) v5 v4 (hT.1 t' (kd v2)) (rp (by simp [Op.operands]) h1 v1)
        · rw [hk] at h
          simp only [cond_true, Option.some.injEq] at h
          subst h
          simp only [Bool.and_eq_true] at hv
          simp only [beq_iff_eq] at hk
          exact leaves_quiet hR (q_conv_str ho (hT.1 t (by omega)) (hT.1 t' (kd hv.2)) hk (rp (by simp [Op.operands]) h1 hv.1))
      all_goals exact text h1 (by intro l hl; cases hl) h
  | unOp op t x =>
    rw [ho] at h rp
    simp only [aop] at h
    cases h1 : opd true F.rd x with
    | mk d p =>
      rw [h1] at h
      cases d <;> simp only [reduceCtorEq] at h <;> cases op <;> simp only [reduceCtorEq] at h <;> cases h
      · exact leaves_quiet hR (q_not ho (rp (by simp [Op.operands]) h1 hv))
      · exact leaves_quiet hR (q_neg ho (rp (by simp [Op.operands]) h1 hv))
  | binOp op t x y ty =>
    rw [ho] at h rp
    simp only [aop] at h
    cases h1 : opd true F.rd x with
    | mk dx p =>
      cases h2 : opd true F.rd y with
      | mk dy q =>
        rw [h1, h2] at h
        split at h
        · rename_i l px l' py e1 e2
          cases e1; cases e2
          have heq : ∀ r d, aggEq (tab t).zero l l' = some r → (op = .eql ∧ d = .bool r ∨ op = .neq ∧ d = .bool (!r)) → (tab t).eqs = true → p = true → q = true → Quiet P (cx w g F.hp) a o d w := by
            intro r d hr hop he hp hq
            have hc := hT.2 t he
            unfold eqsChk at hc
            split at hc
            · rename_i fs hfs
              simp only [Bool.and_eq_true, Bool.not_eq_true', beq_iff_eq] at hc
              exact q_aggEq ho hc.1.1.1 hc.1.1.2 hfs hc.1.2 hc.2 hr (rp (by simp [Op.operands]) h1 hp) (rp (by simp [Op.operands]) h2 hq) hop
            · cases hc
          split at h
          · rename_i r hr
            cases h
            simp only [Bool.and_eq_true] at hv
            exact leaves_quiet hR (heq r _ hr (.inl ⟨rfl, rfl⟩) hv.2 hv.1.1 hv.1.2)
          · rename_i r hr
            cases h
            simp only [Bool.and_eq_true] at hv
            exact leaves_quiet hR (heq r _ hr (.inr ⟨rfl, rfl⟩) hv.2 hv.1.1 hv.1.2)
          · cases h
        rename_i dx' px' dy' py' _ e1 e2
        cases e1; cases e2
        split at h
        · rename_i d r hb
          cases h
          simp only [Bool.and_eq_true] at hv
          obtain ⟨⟨⟨v1, v2⟩, v3⟩, hk⟩ := hv
          have v3' : r = true ∨ ∃ id s off len oc, dx = .ref id s off len oc ∧ ∀ ad cap, a.eval x = .slice ad len cap → 0 < cap := by
            cases r with
            | true => exact .inl rfl
            | false =>
              right
              simp only [Bool.false_or] at v3
              have hxr := rp (by simp [Op.operands]) h1 v1
              cases dx
              case ref id s off len oc _ => exact ⟨id, s, off, len, oc, rfl, fun ad cap he => roomNZ_pos hR v3 (he ▸ hxr)⟩
              all_goals cases v3
          refine leaves_quiet hR (q_bin ho hb v3' (rp (by simp [Op.operands]) h1 v1) (rp (by simp [Op.operands]) h2 v2) ?_ ?_ ?_)
          · rintro s l c s' c' rfl rfl
            simp only [binT, beq_iff_eq] at hk
            obtain ⟨e, j, hu, _⟩ := ti_slice (hT.1 t (by omega)) hk
            exact ⟨e, hu⟩
          · rintro id s off len oc rfl
            simp only [binT, beq_iff_eq] at hk
            obtain ⟨e, j, hu, _⟩ := ti_slice (hT.1 t (by omega)) hk
            exact ⟨e, hu⟩
          · rintro b rfl
            simp only [binT, beq_iff_eq] at hk
            exact ti_bool (hT.1 t (by omega)) hk
        · cases h
  | call c =>
    rw [ho] at h rp
    have hm : ∀ x ∈ c.args.toList, ∀ b, c.callee = .builtin b → x ∈ (Op.call c).operands.toList := by
      intro x hx b hc
      simp only [Op.operands, Call.operands, hc, Array.toList_append, List.mem_append]
      exact .inr hx
    simp only [aop] at h
    split at h
    · -- len
      rename_i x t hc hca hct
      have hmem := hm x (by rw [hca]; simp) _ hc
      cases h1 : opd true F.rd x with
      | mk d p =>
        rw [h1] at h
        cases d <;> simp only [reduceCtorEq] at h <;> cases h <;> simp only [Bool.and_eq_true, beq_iff_eq] at hv
        · exact leaves_quiet hR (q_len ho hc hca hct (hT.1 t (by have := hv.2; omega)) (rp hmem h1 hv.1) (.inr ⟨hv.2, _, rfl, rfl⟩))
        · exact leaves_quiet hR (q_len ho hc hca hct (hT.1 t (by have := hv.2; omega)) (rp hmem h1 hv.1) (.inl ⟨hv.2, .inl ⟨_, _, _, rfl, rfl⟩⟩))
        · exact leaves_quiet hR (q_len ho hc hca hct (hT.1 t (by have := hv.2; omega)) (rp hmem h1 hv.1) (.inl ⟨hv.2, .inr ⟨_, _, _, _, rfl⟩⟩))
    · -- cap
      rename_i x t hc hca hct
      have hmem := hm x (by rw [hca]; simp) _ hc
      cases h1 : opd true F.rd x with
      | mk d p =>
        rw [h1] at h
        cases d
        case imm s l k =>
          cases h
          simp only [Bool.and_eq_true, Bool.or_eq_true, beq_iff_eq] at hv
          refine leaves_quiet hR (q_cap ho hc hca hct (hT.1 t (by have := hv.1.2; omega)) hv.1.2 (rp hmem h1 hv.1.1) (.inl ⟨_, _, _, rfl, rfl, ?_⟩))
          rcases hv.2 with h | h
          · exact .inl (Nat.le_of_ble_eq_true h)
          · exact .inr (Nat.eq_of_beq_eq_true h)
        case ref id s off len oc =>
          cases oc with
          | none => cases h
          | some k =>
          cases h
          simp only [Bool.and_eq_true, beq_iff_eq] at hv
          exact leaves_quiet hR (q_cap ho hc hca hct (hT.1 t (by have := hv.2; omega)) hv.2 (rp hmem h1 hv.1) (.inr ⟨_, _, _, _, rfl⟩))
        all_goals simp only [reduceCtorEq] at h
    · -- append
      rename_i s x t t' hc hca hct
      have hm1 := hm s (by rw [hca]; simp) _ hc
      have hm2 := hm x (by rw [hca]; simp) _ hc
      cases h1 : opd true F.rd s with
      | mk ds p =>
        cases h2 : opd true F.rd x with
        | mk dx q =>
          rw [h1, h2] at h
          simp only at h
          split at h
          · rename_i xs px vx hsd
            split at h
            · rename_i out' ha
              cases h
              simp only [Bool.and_eq_true, Bool.or_eq_true, beq_iff_eq] at hv
              obtain ⟨⟨⟨⟨v1, v2⟩, v3⟩, v4⟩, v5⟩ := hv
              refine e_appendIn (out := out') hR ho hc hca hct (hT.1 t (by omega)) v4 ?_ (rp hm1 h1 v1) (fun hvx => srcD_ok hR (rp hm2 h2 v2) hsd hvx) ha v3
              rcases v5 with h5 | h5
              · obtain ⟨e, j, hu, _⟩ := ti_slice (hT.1 t' (by omega)) h5
                exact .inl ⟨e, hu⟩
              · exact .inr (ti_string (hT.1 t' (by omega)) h5)
            · split at h
              · rename_i out' ha
                cases h
                simp only [Bool.and_eq_true, Bool.or_eq_true, beq_iff_eq] at hv
                obtain ⟨⟨⟨⟨v1, v2⟩, v3⟩, v4⟩, v5⟩ := hv
                refine e_append (out := out') hR hn ho hc hca hct (hT.1 t (by omega)) v4 ?_ (rp hm1 h1 v1) (fun hvx => srcD_ok hR (rp hm2 h2 v2) hsd hvx) ha v3
                rcases v5 with h5 | h5
                · obtain ⟨e, j, hu, _⟩ := ti_slice (hT.1 t' (by omega)) h5
                  exact .inl ⟨e, hu⟩
                · exact .inr (ti_string (hT.1 t' (by omega)) h5)
              · cases h
          · split at h
            · rename_i out' ha
              cases h
              simp only [Bool.and_eq_true, beq_iff_eq] at hv
              obtain ⟨⟨⟨⟨v1, v2⟩, v3⟩, v4⟩, v5⟩ := hv
              unfold appendZ at ha
              split at ha
              · split at ha
                · rename_i hb
                  cases ha
                  simp only [Bool.and_eq_true, decide_eq_true_eq] at v3
                  obtain ⟨⟨⟨⟨⟨⟨w1, w2⟩, w3⟩, w4⟩, w5⟩, w6⟩, w7⟩ := v3
                  obtain rfl := Nat.eq_of_beq_eq_true w2
                  obtain ⟨kn, hkn⟩ := ti_int' (hT.1 t' (by omega)) v5
                  exact e_appendZ hR (hn rfl) ho hc hca hct (hT.1 t (by omega)) v4 hkn (rp hm1 h1 v1) hb (Nat.eq_of_beq_eq_true w3) (Nat.le_of_ble_eq_true w4) (rp hm2 h2 v2) w5 (Nat.le_of_ble_eq_true w6) w7
                · cases ha
              · rename_i s0 c0 k0 m0
                cases ha
                simp only [Bool.and_eq_true, Bool.or_eq_true, decide_eq_true_eq] at v3
                obtain ⟨⟨w1, w2⟩, w3⟩ := v3
                obtain ⟨kn, hkn⟩ := ti_int' (hT.1 t' (by omega)) v5
                have hse := rp hm1 h1 v1
                simp only [rep] at hse
                obtain ⟨ad, cap, hsv, g1, g2, g3, g4, g5, g6, _⟩ := hse
                have hcap : cap = 0 := g5 (by rcases w1 with h | h; exact .inl (Nat.le_of_ble_eq_true h); exact .inr (Nat.eq_of_beq_eq_true h))
                subst hcap
                have := e_appendZg hR (hn rfl) ho hc hca hct (hT.1 t (by omega)) v4 hkn (its := []) (p := true) (base := ad) (cap := 0) (by simpa using hsv) (.inl ⟨ad, 0, by simp, .inl rfl⟩) (rp hm2 h2 v2) w2 (by simp; omega) (by simpa using w3)
                simpa using this
              · cases ha
            · cases h
    · -- copy
      rename_i s x t t' hc hca hct
      have hm1 := hm s (by rw [hca]; simp) _ hc
      have hm2 := hm x (by rw [hca]; simp) _ hc
      cases h1 : opd true F.rd s with
      | mk ds p =>
        cases h2 : opd true F.rd x with
        | mk dx q =>
          rw [h1, h2] at h
          split at h
          · rename_i e1 e2
            cases e1; cases e2
            split at h
            · rename_i hb hb2
              cases h
              simp only [Bool.and_eq_true, beq_iff_eq] at hv
              obtain ⟨⟨⟨⟨⟨⟨⟨⟨v1, v2⟩, v3⟩, v4⟩, v5⟩, v6⟩, v7⟩, v8⟩, v9⟩ := hv
              obtain rfl := Nat.eq_of_beq_eq_true v3
              obtain rfl := Nat.eq_of_beq_eq_true v5
              exact e_copy2 hR ho hc hca hct (hT.1 t (by omega)) v9 (rp hm1 h1 v1) hb (Nat.eq_of_beq_eq_true v4) (Nat.le_of_ble_eq_true v7) (rp hm2 h2 v2) hb2 (Nat.eq_of_beq_eq_true v6) (Nat.le_of_ble_eq_true v8)
            · cases h
          · rename_i e1 e2
            cases e1; cases e2
            split at h
            · rename_i e s'' pu items xs px vx hb hsd
              cases h
              simp only [Bool.and_eq_true, beq_iff_eq] at hv
              obtain ⟨⟨⟨⟨⟨⟨v1, v2⟩, v3⟩, v4⟩, v5⟩, v6⟩, v7⟩ := hv
              obtain rfl := Nat.eq_of_beq_eq_true v4
              exact e_copy hR ho hc hca hct (hT.1 t (by omega)) v7 (rp hm1 h1 v1) hb (Nat.eq_of_beq_eq_true v5) (Nat.le_of_ble_eq_true v6) (srcD_ok hR (rp hm2 h2 v2) hsd v3)
            · cases h
          · cases h
    · -- clear
      rename_i x t hc hca hct
      have hmem := hm x (by rw [hca]; simp) _ hc
      cases h1 : opd true F.rd x with
      | mk d p =>
        rw [h1] at h
        split at h
        · rename_i s k p' he
          cases he
          cases h
          simp only [Bool.and_eq_true, beq_iff_eq] at hv
          obtain ⟨e, j, hu, hj, _⟩ := ti_slice (hT.1 t (by omega)) hv.2
          have hx := rp hmem h1 hv.1
          simp only [rep] at hx
          obtain ⟨ad, cap, hx, _⟩ := hx
          have e1 : c.args = #[x] := by apply Array.ext'; simpa using hca
          have e2 : c.argTypes = #[t] := by apply Array.ext'; simpa using hct
          refine leaves_quiet hR ⟨.tuple #[], ?_, by simp only [rep, reps]; exact ⟨[], rfl, rfl⟩⟩
          unfold execOp
          cases ad <;> simp [ho, resolve, hc, e1, e2, hx, invoke, builtin, Builtin.clear_, run_underlying hu]
        · rename_i id s off len oc p' he
          cases he
          split at h
          · rename_i e s' pu items hb
            cases h
            simp only [Bool.and_eq_true, beq_iff_eq] at hv
            obtain ⟨⟨⟨⟨⟨⟨v1, v2⟩, v3⟩, v4⟩, v5⟩, _⟩, _⟩ := hv
            obtain rfl := Nat.eq_of_beq_eq_true v3
            exact e_clear hR ho hc hca hct (hT.1 t (by omega)) v2 (rp hmem h1 v1) hb (Nat.eq_of_beq_eq_true v4) (Nat.le_of_ble_eq_true v5)
          · cases h
        · cases h
    · -- max
      rename_i x y hc hca
      have hm1 := hm x (by rw [hca]; simp) _ hc
      have hm2 := hm y (by rw [hca]; simp) _ hc
      cases h1 : opd true F.rd x with
      | mk d p =>
        cases h2 : opd true F.rd y with
        | mk d' q =>
          rw [h1, h2] at h
          cases d <;> cases d' <;> simp only [reduceCtorEq] at h
          rename_i k m k' m'
          cases hk : decide (k = k') with
          | false => rw [hk] at h; cases h
          | true =>
            simp only [hk, cond_true] at h
            cases h
            simp at hk; subst hk
            simp only [Bool.and_eq_true] at hv
            exact leaves_quiet hR (q_max ho hc hca (rp hm1 h1 hv.1) (rp hm2 h2 hv.2))
    · -- min
      rename_i x y hc hca
      have hm1 := hm x (by rw [hca]; simp) _ hc
      have hm2 := hm y (by rw [hca]; simp) _ hc
      cases h1 : opd true F.rd x with
      | mk d p =>
        cases h2 : opd true F.rd y with
        | mk d' q =>
          rw [h1, h2] at h
          cases d <;> cases d' <;> simp only [reduceCtorEq] at h
          rename_i k m k' m'
          cases hk : decide (k = k') with
          | false => rw [hk] at h; cases h
          | true =>
            simp only [hk, cond_true] at h
            cases h
            simp at hk; subst hk
            simp only [Bool.and_eq_true] at hv
            exact leaves_quiet hR (q_min ho hc hca (rp hm1 h1 hv.1) (rp hm2 h2 hv.2))
    · cases h
  | _ => rw [ho] at h; simp only [aop, reduceCtorEq] at h
end
end Go.Tm

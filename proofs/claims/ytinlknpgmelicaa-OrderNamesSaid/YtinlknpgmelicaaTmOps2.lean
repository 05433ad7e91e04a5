/- Each operation without an effect on memory does what the abstract one says: indices, slices, functions, interfaces. -/
import Derived.Test.YtinlknpgmelicaaTmOps
namespace Go.Tm
open Go.RowKit Go.WideShapes

section
variable {P : Program} {C : Cx} {a : Act} {w : World}

theorem run_sliceBound {k : IntKind} {i : Int} {y : Nat} {code : BoundsCode} (h0 : 0 ≤ i) (h1 : i ≤ y) : (Instr.sliceBound (.int k i) y code).run P w = .ok i.toNat w := by
  simp [Instr.sliceBound, asIntOf, h0, h1]

def OptRep (C : Cx) (a : Act) : Option Operand → Option D → Prop
  | none, none => True
  | some x, some d => rep C d (a.eval x)
  | _, _ => False

/-- the bounds of a slice expression without a third one -/
theorem run_sliceBounds {isS : Bool} {len cap L : Nat} {lo hi : Option Operand} {dlo dhi : Option D} {i j : Int} {v : Bool}
    (hlo : OptRep C a lo dlo) (hhi : OptRep C a hi dhi) (h : sliceD L dlo dhi = some (i, j, v)) (hv : v = true) (hc : L ≤ cap) (hL : dhi = none → L = len) :
    (Instr.sliceBounds isS len cap (lo.map a.eval) (hi.map a.eval) none).run P w = .ok (i.toNat, j.toNat, cap) w ∧ 0 ≤ i ∧ i ≤ j ∧ j ≤ L := by
  cases lo with
  | none =>
    cases dlo with
    | some d => exact hlo.elim
    | none =>
      cases hi with
      | none =>
        cases dhi with
        | some d => exact hhi.elim
        | none =>
          simp only [sliceD, Option.some.injEq, Prod.mk.injEq] at h
          obtain ⟨rfl, rfl, rfl⟩ := h
          have := hL rfl
          subst this
          simp [Instr.sliceBounds]
      | some y =>
        cases dhi with
        | none => exact hhi.elim
        | some d =>
          cases d <;> simp only [sliceD, Option.some.injEq, Prod.mk.injEq, reduceCtorEq] at h
          rename_i k b
          obtain ⟨rfl, rfl, rfl⟩ := h
          simp only [OptRep, rep] at hhi
          simp only [Bool.and_eq_true, decide_eq_true_eq] at hv
          simp [Instr.sliceBounds, hhi.1, run_sliceBound (P := P) (w := w) (k := k) hv.1 (show b ≤ cap by omega), hv.1, hv.2]
  | some x =>
    cases dlo with
    | none => exact hlo.elim
    | some dl =>
      cases hi with
      | none =>
        cases dhi with
        | some d => exact hhi.elim
        | none =>
          cases dl <;> simp only [sliceD, Option.some.injEq, Prod.mk.injEq, reduceCtorEq] at h
          rename_i k b
          obtain ⟨rfl, rfl, rfl⟩ := h
          simp only [OptRep, rep] at hlo
          have := hL rfl
          subst this
          simp only [Bool.and_eq_true, decide_eq_true_eq] at hv
          simp [Instr.sliceBounds, hlo.1, run_sliceBound (P := P) (w := w) (k := k) hv.1 hv.2, hv.1, hv.2]
      | some y =>
        cases dhi with
        | none => exact hhi.elim
        | some dh =>
          cases dl <;> cases dh <;> simp only [sliceD, Option.some.injEq, Prod.mk.injEq, reduceCtorEq] at h
          rename_i k b k' b'
          obtain ⟨rfl, rfl, rfl⟩ := h
          simp only [OptRep, rep] at hlo hhi
          simp only [Bool.and_eq_true, decide_eq_true_eq] at hv
          obtain ⟨⟨v1, v2⟩, v3⟩ := hv
          have e1 := fun c => run_sliceBound (P := P) (w := w) (k := k') (code := c) (show 0 ≤ b' by omega) (show b' ≤ cap by omega)
          have e2 := fun c => run_sliceBound (P := P) (w := w) (k := k) (y := b'.toNat) (code := c) v1 (by omega)
          simp [Instr.sliceBounds, hlo.1, hhi.1, e1, e2, v1, v2, v3]

theorem run_slice3 {len cap L : Nat} {lo hi : Option Operand} {mx : Operand} {dlo dhi : Option D} {dmx : D} {i j m : Int} {v : Bool}
    (hlo : OptRep C a lo dlo) (hhi : OptRep C a hi dhi) (hmx : rep C dmx (a.eval mx)) (h : slice3D L dlo dhi (some dmx) = some (i, j, m, v)) (hv : v = true) (hc : L ≤ cap) :
    (Instr.sliceBounds true len cap (lo.map a.eval) (hi.map a.eval) (some (a.eval mx))).run P w = .ok (i.toNat, j.toNat, m.toNat) w ∧ 0 ≤ i ∧ i ≤ j ∧ j ≤ m ∧ m ≤ L := by
  unfold slice3D at h
  split at h
  · rename_i k b k' m' he2
    cases he2
    simp only [rep] at hmx
    cases hi with
    | none => exact hhi.elim
    | some y =>
      simp only [OptRep, rep] at hhi
      split at h
      · cases lo with
        | some x => exact hlo.elim
        | none =>
          simp only [Option.some.injEq, Prod.mk.injEq] at h
          obtain ⟨rfl, rfl, rfl, rfl⟩ := h
          simp only [Bool.and_eq_true, decide_eq_true_eq] at hv
          obtain ⟨⟨v1, v2⟩, v3⟩ := hv
          have e1 := fun c => run_sliceBound (P := P) (w := w) (k := k') (code := c) (show 0 ≤ m' by omega) (show m' ≤ cap by omega)
          have e2 := fun c => run_sliceBound (P := P) (w := w) (k := k) (y := m'.toNat) (code := c) v1 (by omega)
          simp [Instr.sliceBounds, hmx.1, hhi.1, e1, e2, v1, v2, v3]
      · cases lo with
        | none => exact hlo.elim
        | some x =>
          rename_i k2 a2
          simp only [OptRep, rep] at hlo
          simp only [Option.some.injEq, Prod.mk.injEq] at h
          obtain ⟨rfl, rfl, rfl, rfl⟩ := h
          simp only [Bool.and_eq_true, decide_eq_true_eq] at hv
          obtain ⟨⟨⟨v1, v2⟩, v3⟩, v4⟩ := hv
          have e1 := fun c => run_sliceBound (P := P) (w := w) (k := k') (code := c) (show 0 ≤ m' by omega) (show m' ≤ cap by omega)
          have e2 := fun c => run_sliceBound (P := P) (w := w) (k := k) (y := m'.toNat) (code := c) (show 0 ≤ b by omega) (by omega)
          have e3 := fun c => run_sliceBound (P := P) (w := w) (k := k2) (y := b.toNat) (code := c) v1 (by omega)
          simp [Instr.sliceBounds, hmx.1, hhi.1, hlo.1, e1, e2, e3, v1, v2, v3, v4]
      · cases h
  · cases h

/-- a part of immutable elements -/
theorem elems_take {C : Cx} : ∀ (l : List D) (k b o s : Nat), elems C l b o s → elems C (l.take k) b o s
  | l, 0, b, o, s, h => by simp only [List.take_zero, elems]
  | [], k + 1, b, o, s, h => by simp only [List.take_nil, elems]
  | d :: ds, k + 1, b, o, s, h => by
    simp only [elems] at h
    simp only [List.take_succ_cons, elems]
    exact ⟨h.1, elems_take ds k b (o + s) s h.2⟩

theorem imm_cut {s c c' : Nat} {l : List D} {ad : Option Addr} {cap i j m : Nat} (hx : rep C (.imm s l c) (.slice ad l.length cap)) (h1 : i ≤ j) (h2 : j ≤ l.length) (h3 : j ≤ m) (h4 : m ≤ cap)
    (hc : c % 8 = 0 ∧ c' = c ∨ c' / 8 = c / 8 ∧ (c' % 8 = 4 ∨ c' % 8 = 3 ∧ m = j ∨ c' % 8 = 1 ∧ m = j ∧ (c % 8 = 1 ∨ c % 8 = 2))) :
    rep C (.imm s ((l.take j).drop i) c') (.slice (if m = i then ad else ad.map (·.add (i * s))) (j - i) (m - i)) := by
  simp only [rep] at hx ⊢
  obtain ⟨ad', cap', he, g1, g2, g3, g4, g5, g6, hfl, g7⟩ := hx
  simp only [Value.slice.injEq] at he
  obtain ⟨rfl, _, rfl⟩ := he
  have hlen : ((l.take j).drop i).length = j - i := by simp; omega
  have hc8 : c' / 8 = c / 8 := by rcases hc with ⟨_, rfl⟩ | h; rfl; exact h.1
  rw [hc8]
  refine ⟨_, _, by rw [hlen], by omega, by omega, ?_, ?_, ?_, ?_, hfl, ?_⟩
  · intro h0
    rcases hc with ⟨hc, rfl⟩ | ⟨_, hc⟩
    · have := g3 hc
      subst this
      simp
    · omega
  · intro h0
    rcases hc with ⟨hc, rfl⟩ | ⟨_, hc⟩
    · omega
    · have := g4 (by omega)
      split
      · exact this
      · simpa using this
  · intro h0
    rcases hc with ⟨hc, rfl⟩ | ⟨_, hc⟩
    · have h5 := g5 (by omega)
      have h6 := g6 (g3 hc)
      omega
    · omega
  · intro hn
    have : ad = none := by split at hn <;> simpa using hn
    have := g6 this
    omega
  · rcases g7 with rfl | g7
    · left; simp
    by_cases he : j - i = 0
    · left
      exact List.eq_nil_of_length_eq_zero (by omega)
    right
    intro Z hZ
    obtain ⟨a0, rfl, hsp, hM, hlo', hbk, hel⟩ := g7 Z hZ
    have hne : m ≠ i := by omega
    refine ⟨⟨a0.block, a0.off + i * s, none⟩, ?_, rfl, hM, hlo', hbk, ?_⟩
    · simp only [hne, if_false, Option.map_some, Option.some.injEq]
      unfold Addr.add
      split
      · cases a0; simp_all
      · rfl
    · exact elems_drop _ _ _ _ _ (elems_take _ _ _ _ _ hel)

theorem ref_cut {id s off len : Nat} {oc oc' : Option Nat} {ad : Option Addr} {cap i j m : Nat} (hx : rep C (.ref id s off len oc) (.slice ad len cap)) (h1 : i ≤ j) (h3 : j ≤ m) (h4 : m ≤ cap) (hc : ∀ c, oc' = some c → m - i = c) (hn : oc' = none → oc = none ∧ m = cap) :
    rep C (.ref id s (off + i) (j - i) oc') (.slice (if m = i then ad else ad.map (·.add (i * s))) (j - i) (m - i)) := by
  simp only [rep] at hx ⊢
  obtain ⟨h0, ad', cap', he, g1, g2, g3, goc, g4⟩ := hx
  simp only [Value.slice.injEq] at he
  obtain ⟨rfl, _, rfl⟩ := he
  refine ⟨h0, _, _, rfl, by omega, by omega, ?_, ⟨hc, fun ho => ?_⟩, ?_⟩
  rotate_left
  · obtain ⟨k1, k2⟩ := hn ho
    obtain ⟨b, T, nn, hσ, hsh, hnn⟩ := goc.2 k1
    refine ⟨b, T, nn, hσ, hsh, ?_⟩
    subst k2
    have e1 : (off + i) * s = off * s + i * s := Nat.add_mul _ _ _
    have e2 : (m - i) * s = m * s - i * s := Nat.sub_mul _ _ _
    have e4 : i * s ≤ m * s := Nat.mul_le_mul_right _ (by omega)
    omega
  rotate_left
  · intro hn
    have : ad = none := by split at hn <;> simpa using hn
    have := g3 this
    omega
  · by_cases he : m - i = 0
    · exact .inl he
    right
    rcases g4 with g4 | ⟨b, T, nn, hσ, rfl, hsh, hn⟩
    · omega
    have hne : m ≠ i := by omega
    refine ⟨b, T, nn, hσ, ?_, hsh, ?_⟩
    · simp only [hne, if_false, Option.map_some, Option.some.injEq]
      unfold Addr.add
      split
      · rename_i h0
        simp only [Nat.add_mul, h0, Nat.add_zero]
      · simp only [Nat.add_mul]
    · have e1 : (off + i) * s = off * s + i * s := Nat.add_mul _ _ _
      have e2 : (m - i) * s = m * s - i * s := Nat.sub_mul _ _ _
      have e3 : m * s ≤ cap * s := Nat.mul_le_mul_right _ h4
      have e4 : i * s ≤ m * s := Nat.mul_le_mul_right _ (by omega)
      omega

theorem run_sliceAt {t e : TypeId} {ji : TypeInfo} {ad : Option Addr} {len cap : Nat} {lo hi mx : Option Value} {i j m : Nat} (hu : P.underlying t = some (.slice e)) (hj : P.info? e = some ji)
    (hb : (Instr.sliceBounds true len cap lo hi mx).run P w = .ok (i, j, m) w) :
    (Instr.sliceAt t (.slice ad len cap) lo hi mx).run P w = .ok (.slice (if m = i then ad else ad.map (·.add (i * ji.size))) (j - i) (m - i)) w := by
  simp [Instr.sliceAt, Instr.slice, run_underlying hu, hb, sizeOf, typeInfo, hj]

theorem rep_immE {C : Cx} {s s' c : Nat} {l : List D} {v : Value} (h : rep C (.imm s l c) v) (hs : (Nat.beq s s' || l.isEmpty) = true) : rep C (.imm s' l c) v := by
  simp only [Bool.or_eq_true, List.isEmpty_iff] at hs
  rcases hs with hs | rfl
  · rw [← Nat.eq_of_beq_eq_true hs]; exact h
  · simp only [rep] at h ⊢; exact h

theorem q_slice_imm {o : Oper} {t : TypeId} {ti : TI} {x : Operand} {lo hi : Option Operand} {dlo dhi : Option D} {s c : Nat} {l : List D} {i j : Int} {v : Bool} (ho : o.op = .slice t x lo hi none)
    (ht : tiChk P t ti = true) (hk : ti.kind = 3) (hx : rep C (.imm s l c) (a.eval x)) (hlo : OptRep C a lo dlo) (hhi : OptRep C a hi dhi) (h : sliceD l.length dlo dhi = some (i, j, v)) (hv : v = true) (hs : s = ti.esz) :
    Quiet P C a o (.imm s ((l.take j.toNat).drop i.toNat) (bif c % 8 == 0 then c else c - c % 8 + 4)) w := by
  obtain ⟨e, ji, hu, hj, hj1, hj2, hj3, hj4, _, _⟩ := ti_slice ht hk
  have hx' := hx
  simp only [rep] at hx'
  obtain ⟨ad, cap, he, g1, _⟩ := hx'
  rw [he] at hx
  obtain ⟨hb, b0, b1, b2⟩ := run_sliceBounds (P := P) (w := w) (isS := true) (len := l.length) (cap := cap) hlo hhi h hv g1 (fun _ => rfl)
  have hsl := run_sliceAt (ad := ad) hu hj hb
  refine ⟨_, by unfold execOp; simp only [ho, Option.map_none, he]; simp only [Sem.run_bind, hsl, Result.andThen_ok, Sem.run_pure]; rfl, ?_⟩
  rw [hj1, ← hs]
  refine imm_cut hx (by omega) (by omega) (by omega) (Nat.le_refl _) ?_
  cases hc : c % 8 == 0
  · right
    simp only [cond_false]
    exact ⟨by omega, .inl (by omega)⟩
  · left
    exact ⟨by simpa using hc, rfl⟩

theorem q_slice_ref {o : Oper} {t : TypeId} {ti : TI} {x : Operand} {lo hi : Option Operand} {dlo dhi : Option D} {id s off len L : Nat} {oc : Option Nat} {i j : Int} {v : Bool} (ho : o.op = .slice t x lo hi none)
    (ht : tiChk P t ti = true) (hk : ti.kind = 3) (hx : rep C (.ref id s off len oc) (a.eval x)) (hlo : OptRep C a lo dlo) (hhi : OptRep C a hi dhi) (h : sliceD L dlo dhi = some (i, j, v)) (hv : v = true) (hs : s = ti.esz)
    (hL : L = len ∨ (∀ ad cap, a.eval x = .slice ad len cap → L ≤ cap) ∧ dhi ≠ none) :
    Quiet P C a o (.ref id s (off + i.toNat) (j - i).toNat (capS oc i.toNat)) w := by
  obtain ⟨e, ji, hu, hj, hj1, hj2, hj3, hj4, _, _⟩ := ti_slice ht hk
  have hx' := hx
  simp only [rep] at hx'
  obtain ⟨_, ad, cap, he, g1, _, _, goc, _⟩ := hx'
  rw [he] at hx
  have hLc : L ≤ cap := by
    rcases hL with rfl | ⟨h1, _⟩
    · exact g1
    · exact h1 _ _ he
  obtain ⟨hb, b0, b1, b2⟩ := run_sliceBounds (P := P) (w := w) (isS := true) (len := len) (cap := cap) hlo hhi h hv hLc (fun hn => by
    rcases hL with h | ⟨_, h⟩
    · exact h
    · exact absurd hn h)
  have hsl := run_sliceAt (ad := ad) hu hj hb
  refine ⟨_, by unfold execOp; simp only [ho, Option.map_none, he]; simp only [Sem.run_bind, hsl, Result.andThen_ok, Sem.run_pure]; rfl, ?_⟩
  rw [hj1, ← hs, show (j - i).toNat = j.toNat - i.toNat by omega]
  refine ref_cut hx (by omega) (by omega) (Nat.le_refl _) ?_ (fun h => ⟨by cases oc <;> simp_all [capS], rfl⟩)
  intro c hc
  cases oc with
  | none => cases hc
  | some c0 =>
    have := goc.1 _ rfl
    simp only [capS, Option.some.injEq] at hc
    omega

theorem q_slice3_imm {o : Oper} {t : TypeId} {ti : TI} {x mx : Operand} {lo hi : Option Operand} {dlo dhi : Option D} {dmx : D} {s c : Nat} {l : List D} {i j m : Int} {v : Bool} (ho : o.op = .slice t x lo hi (some mx))
    (ht : tiChk P t ti = true) (hk : ti.kind = 3) (hx : rep C (.imm s l c) (a.eval x)) (hlo : OptRep C a lo dlo) (hhi : OptRep C a hi dhi) (hmx : rep C dmx (a.eval mx)) (h : slice3D l.length dlo dhi (some dmx) = some (i, j, m, v)) (hv : v = true) (hs : s = ti.esz) :
    Quiet P C a o (.imm s ((l.take j.toNat).drop i.toNat) (bif c % 8 == 0 then c else bif m == j then (bif (c % 8 == 1 || c % 8 == 2) then c - c % 8 + 1 else c - c % 8 + 3) else c - c % 8 + 4)) w := by
  obtain ⟨e, ji, hu, hj, hj1, hj2, hj3, hj4, _, _⟩ := ti_slice ht hk
  have hx' := hx
  simp only [rep] at hx'
  obtain ⟨ad, cap, he, g1, _⟩ := hx'
  rw [he] at hx
  obtain ⟨hb, b0, b1, b2, b3⟩ := run_slice3 (P := P) (w := w) (len := l.length) (cap := cap) hlo hhi hmx h hv g1
  have hsl := run_sliceAt (ad := ad) hu hj hb
  refine ⟨_, by unfold execOp; simp only [ho, Option.map_some, he]; simp only [Sem.run_bind, hsl, Result.andThen_ok, Sem.run_pure]; rfl, ?_⟩
  rw [hj1, ← hs]
  refine imm_cut hx (by omega) (by omega) (by omega) (by omega) ?_
  cases hc : c % 8 == 0
  · right
    simp only [cond_false]
    cases hm : m == j
    · simp only [cond_false]
      exact ⟨by omega, .inl (by omega)⟩
    · simp only [cond_true]
      simp only [beq_iff_eq] at hm
      cases hd : (c % 8 == 1 || c % 8 == 2)
      · simp only [cond_false]
        exact ⟨by omega, .inr (.inl ⟨by omega, by omega⟩)⟩
      · simp only [cond_true]
        simp only [Bool.or_eq_true, beq_iff_eq] at hd
        exact ⟨by omega, .inr (.inr ⟨by omega, by omega, hd⟩)⟩
  · left
    exact ⟨by simpa using hc, rfl⟩

theorem q_slice3_ref {o : Oper} {t : TypeId} {ti : TI} {x mx : Operand} {lo hi : Option Operand} {dlo dhi : Option D} {dmx : D} {id s off len L : Nat} {oc : Option Nat} {i j m : Int} {v : Bool} (ho : o.op = .slice t x lo hi (some mx))
    (ht : tiChk P t ti = true) (hk : ti.kind = 3) (hx : rep C (.ref id s off len oc) (a.eval x)) (hlo : OptRep C a lo dlo) (hhi : OptRep C a hi dhi) (hmx : rep C dmx (a.eval mx)) (h : slice3D L dlo dhi (some dmx) = some (i, j, m, v)) (hv : v = true) (hs : s = ti.esz)
    (hL : L = len ∨ oc = some L) :
    Quiet P C a o (.ref id s (off + i.toNat) (j - i).toNat (some (m - i).toNat)) w := by
  obtain ⟨e, ji, hu, hj, hj1, hj2, hj3, hj4, _, _⟩ := ti_slice ht hk
  have hx' := hx
  simp only [rep] at hx'
  obtain ⟨_, ad, cap, he, g1, _, _, goc, _⟩ := hx'
  rw [he] at hx
  have hLc : L ≤ cap := by
    rcases hL with rfl | h1
    · exact g1
    · exact Nat.le_of_eq (goc.1 _ h1).symm
  obtain ⟨hb, b0, b1, b2, b3⟩ := run_slice3 (P := P) (w := w) (len := len) (cap := cap) hlo hhi hmx h hv hLc
  have hsl := run_sliceAt (ad := ad) hu hj hb
  refine ⟨_, by unfold execOp; simp only [ho, Option.map_some, he]; simp only [Sem.run_bind, hsl, Result.andThen_ok, Sem.run_pure]; rfl, ?_⟩
  rw [hj1, ← hs, show (j - i).toNat = j.toNat - i.toNat by omega]
  refine ref_cut hx (by omega) (by omega) (by omega) ?_ (fun h => by cases h)
  intro c hc
  simp only [Option.some.injEq] at hc
  omega

/-- a slice that is not nil, cut to nothing, with no room -/
theorem q_slice3_refn {o : Oper} {t : TypeId} {ti : TI} {x mx : Operand} {lo hi : Option Operand} {dlo dhi : Option D} {dmx : D} {id s off len L : Nat} {oc : Option Nat} {i j m : Int} {v : Bool} (ho : o.op = .slice t x lo hi (some mx))
    (ht : tiChk P t ti = true) (hk : ti.kind = 3) (hx : rep C (.ref id s off len oc) (a.eval x)) (hlo : OptRep C a lo dlo) (hhi : OptRep C a hi dhi) (hmx : rep C dmx (a.eval mx)) (h : slice3D L dlo dhi (some dmx) = some (i, j, m, v)) (hv : v = true) (_ : s = ti.esz)
    (hL : L = len ∨ oc = some L) (him : i = m) (hnz : ∀ ad cap, a.eval x = .slice ad len cap → 0 < cap) :
    Quiet P C a o (.imm ti.esz [] 1) w := by
  obtain ⟨e, ji, hu, hj, hj1, hj2, hj3, hj4, _, _⟩ := ti_slice ht hk
  have hx' := hx
  simp only [rep] at hx'
  obtain ⟨_, ad, cap, he, g1, _, g3, goc, _⟩ := hx'
  have hpos := hnz ad cap he
  have hLc : L ≤ cap := by
    rcases hL with rfl | h1
    · exact g1
    · exact Nat.le_of_eq (goc.1 _ h1).symm
  obtain ⟨hb, b0, b1, b2, b3⟩ := run_slice3 (P := P) (w := w) (len := len) (cap := cap) hlo hhi hmx h hv hLc
  have hsl := run_sliceAt (ad := ad) hu hj hb
  refine ⟨_, by unfold execOp; simp only [ho, Option.map_some, he]; simp only [Sem.run_bind, hsl, Result.andThen_ok, Sem.run_pure]; rfl, ?_⟩
  subst him
  simp only [rep, List.length_nil]
  have e1 : j.toNat - i.toNat = 0 := by omega
  refine ⟨ad, 0, by simp [e1], by simp, by simp, by simp, fun _ hn => ?_, by simp, by simp, by simp, .inl trivial⟩
  have := g3 hn
  omega

theorem q_slice_str {o : Oper} {t : TypeId} {ti : TI} {x : Operand} {lo hi : Option Operand} {dlo dhi : Option D} {l : List UInt8} {i j : Int} {v : Bool} (ho : o.op = .slice t x lo hi none)
    (ht : tiChk P t ti = true) (hk : ti.kind = 5) (hx : rep C (.str l) (a.eval x)) (hlo : OptRep C a lo dlo) (hhi : OptRep C a hi dhi) (h : sliceD l.length dlo dhi = some (i, j, v)) (hv : v = true) :
    Quiet P C a o (.str ((l.take j.toNat).drop i.toNat)) w := by
  have hu := ti_string ht hk
  simp only [rep] at hx
  obtain ⟨hx, hl⟩ := hx
  have hsz : (⟨l.toArray⟩ : ByteArray).size = l.length := by simp [ByteArray.size]
  obtain ⟨hb, b0, b1, b2⟩ := run_sliceBounds (P := P) (w := w) (isS := false) (len := l.length) (cap := l.length) hlo hhi h hv (Nat.le_refl _) (fun _ => rfl)
  have hsl : (Instr.sliceAt t (.string ⟨l.toArray⟩) (lo.map a.eval) (hi.map a.eval) none).run P w = .ok (.string ((⟨l.toArray⟩ : ByteArray).extract i.toNat j.toNat)) w := by
    simp [Instr.sliceAt, Instr.slice, run_underlying hu, hsz, hb]
  refine ⟨_, by unfold execOp; simp only [ho, Option.map_none, hx]; simp only [Sem.run_bind, hsl, Result.andThen_ok, Sem.run_pure]; rfl, ?_⟩
  simp only [rep]
  refine ⟨?_, by simp; omega⟩
  congr 1
  apply bytes_inj
  simp only [ByteArray.data_extract, List.extract_toArray, List.drop_take]

theorem q_len {o : Oper} {t : TypeId} {ti : TI} {x : Operand} {d : D} {n : Nat} {c : Call} (ho : o.op = .call c) (hc : c.callee = .builtin .len) (hca : c.args.toList = [x]) (hct : c.argTypes.toList = [t]) (ht : tiChk P t ti = true)
    (hx : rep C d (a.eval x)) (hd : (ti.kind = 3 ∧ ((∃ s l k, d = .imm s l k ∧ n = l.length) ∨ ∃ id s off oc, d = .ref id s off n oc)) ∨ ti.kind = 5 ∧ ∃ l, d = .str l ∧ n = l.length) :
    Quiet P C a o (.int .i64 n) w := by
  have e1 : c.args = #[x] := by apply Array.ext'; simpa using hca
  have e2 : c.argTypes = #[t] := by apply Array.ext'; simpa using hct
  have run : ∀ v, a.eval x = v → (Builtin.len_ #[t] o.type #[v]).run P w = .ok (.int .i64 n) w → Quiet P C a o (.int .i64 n) w ∨ ¬ ((n : Int) ≤ 9223372036854775807) := by
    intro v hv hr
    by_cases hn : (n : Int) ≤ 9223372036854775807
    · left
      refine ⟨.int .i64 n, ?_, ?_⟩
      · unfold execOp; simp [ho, resolve, hc, e1, e2, hv, invoke, builtin, hr]
      · simp only [rep]
        refine ⟨trivial, ?_, ?_⟩ <;> simp [IntKind.min, IntKind.max, IntKind.signed, IntKind.bits] <;> omega
    · exact .inr hn
  rcases hd with ⟨hk, ⟨s, l, k, rfl, rfl⟩ | ⟨id, s, off, oc, rfl⟩⟩ | ⟨hk, l, rfl, rfl⟩
  · obtain ⟨e, ji, hu, hj, _⟩ := ti_slice ht hk
    simp only [rep] at hx
    obtain ⟨ad, cap, hx, g1, g2, _⟩ := hx
    exact (run _ hx (by simp [Builtin.len_, run_underlying hu, goInt])).resolve_right (by omega)
  · obtain ⟨e, ji, hu, hj, _⟩ := ti_slice ht hk
    simp only [rep] at hx
    obtain ⟨_, ad, cap, hx, g1, g2, _⟩ := hx
    exact (run _ hx (by simp [Builtin.len_, run_underlying hu, goInt])).resolve_right (by omega)
  · have hu := ti_string ht hk
    simp only [rep] at hx
    obtain ⟨hx, hl⟩ := hx
    have hsz : (⟨l.toArray⟩ : ByteArray).size = l.length := by simp [ByteArray.size]
    exact (run _ hx (by simp [Builtin.len_, run_underlying hu, goInt, hsz])).resolve_right (by omega)

theorem reps_opds {rd : Nat → D} (hr : ∀ t, rep C (rd t) (a.eval (.tmp t))) : ∀ (l : List Operand) (ds : List D) (p : Bool), opds true rd l = (ds, p) → p → l.all operandOk = true → reps C ds (l.map a.eval)
  | [], ds, p, h, _, _ => by simp only [opds] at h; cases h; simp only [reps, List.map_nil]
  | x :: r, ds, p, h, hp, hk => by
    simp only [opds] at h
    cases h1 : opd true rd x with
    | mk d p1 =>
      cases h2 : opds true rd r with
      | mk ds' p2 =>
        rw [h1, h2] at h
        cases h
        simp only [List.all_cons, Bool.and_eq_true] at hk
        simp only [reps, List.map_cons]
        have hp := (Bool.and_eq_true _ _).mp hp
        exact ⟨_, _, rfl, rep_opd hr hk.1 h1 hp.1 rfl, reps_opds hr r ds' p2 h2 hp.2 hk.2⟩

theorem q_makeFunc {o : Oper} {f : Fn} {caps : Array Operand} {ds : List D} (ho : o.op = .makeFunc f #[] caps) (hr : reps C ds (caps.toList.map a.eval)) : Quiet P C a o (.fn f ds) w := by
  refine ⟨.func f #[] (caps.map a.eval), by unfold execOp; simp [ho, Instr.makeFunc], ?_⟩
  simp only [rep]
  exact ⟨_, by congr 1; apply Array.ext'; simp, hr⟩

theorem q_max {o : Oper} {x y : Operand} {k : IntKind} {m m' : Int} {c : Call} (ho : o.op = .call c) (hc : c.callee = .builtin .max) (hca : c.args.toList = [x, y])
    (hx : rep C (.int k m) (a.eval x)) (hy : rep C (.int k m') (a.eval y)) : Quiet P C a o (.int k (max m m')) w := by
  have e1 : c.args = #[x, y] := by apply Array.ext'; simpa using hca
  simp only [rep] at hx hy
  refine ⟨.int k (max m m'), ?_, by simp only [rep]; refine ⟨trivial, ?_, ?_⟩ <;> omega⟩
  unfold execOp
  simp [ho, resolve, hc, e1, hx.1, hy.1, invoke, builtin, Builtin.max_, Builtin.max2]
  split <;> omega

theorem q_min {o : Oper} {x y : Operand} {k : IntKind} {m m' : Int} {c : Call} (ho : o.op = .call c) (hc : c.callee = .builtin .min) (hca : c.args.toList = [x, y])
    (hx : rep C (.int k m) (a.eval x)) (hy : rep C (.int k m') (a.eval y)) : Quiet P C a o (.int k (min m m')) w := by
  have e1 : c.args = #[x, y] := by apply Array.ext'; simpa using hca
  simp only [rep] at hx hy
  refine ⟨.int k (min m m'), ?_, by simp only [rep]; refine ⟨trivial, ?_, ?_⟩ <;> omega⟩
  unfold execOp
  simp [ho, resolve, hc, e1, hx.1, hy.1, invoke, builtin, Builtin.min_, Builtin.min2]
  split <;> omega

/-! ### build -/
theorem reps_append {C : Cx} : ∀ (l l' : List D) (vs vs' : List Value), reps C l vs → reps C l' vs' → reps C (l ++ l') (vs ++ vs')
  | [], l', vs, vs', h, h' => by simp only [reps] at h; subst h; simpa using h'
  | d :: ds, l', vs, vs', h, h' => by
    simp only [reps] at h
    obtain ⟨v, vs1, rfl, hd, h⟩ := h
    simp only [List.cons_append, reps]
    exact ⟨v, _, rfl, hd, reps_append ds l' vs1 vs' h h'⟩

theorem reps_zero {C : Cx} : ∀ (l : List D) (vs : List Value), zeroChk l vs = true → reps C l vs := by
  intro l vs h
  fun_induction zeroChk l vs with
  | case1 => simp only [reps]
  | case2 b ds b' vs ih =>
    simp only [Bool.and_eq_true, beq_iff_eq] at h
    simp only [reps, rep]
    exact ⟨_, _, rfl, by rw [h.1], ih h.2⟩
  | case3 k n ds k' n' vs ih =>
    simp only [Bool.and_eq_true, beq_iff_eq, decide_eq_true_eq] at h
    obtain ⟨⟨⟨⟨rfl, rfl⟩, h1⟩, h2⟩, h3⟩ := h
    simp only [reps, rep]
    exact ⟨_, _, rfl, ⟨rfl, h1, h2⟩, ih h3⟩
  | case4 ds s vs ih =>
    simp only [Bool.and_eq_true, beq_iff_eq] at h
    simp only [reps, rep]
    refine ⟨_, _, rfl, ⟨?_, by simp⟩, ih h.2⟩
    congr 1
    apply bytes_inj
    have : s.data.size = 0 := h.1
    simp [Array.size_eq_zero_iff.1 this]
  | case5 s ds vs ih =>
    simp only [reps, rep]
    exact ⟨_, _, rfl, ⟨none, 0, rfl, by simp⟩, ih h⟩
  | case6 ds vs ih => simp only [reps, rep]; exact ⟨_, _, rfl, rfl, ih h⟩
  | case7 ds vs ih => simp only [reps, rep]; exact ⟨_, _, rfl, rfl, ih h⟩
  | case8 ds vs ih => simp only [reps, rep]; exact ⟨_, _, rfl, rfl, ih h⟩
  | case9 ds vs ih => simp only [reps, rep]; exact ⟨_, _, rfl, rfl, ih h⟩
  | case10 => cases h


theorem foldl_set : ∀ (l : List Value) (k off : Nat) (cs : Array Value), off + k + l.length ≤ cs.size →
    ((l.zipIdx k).foldl (fun cs (c, j) => cs.setIfInBounds (off + j) c) cs).toList = cs.toList.take (off + k) ++ l ++ cs.toList.drop (off + k + l.length)
  | [], k, off, cs, _ => by simp
  | v :: l, k, off, cs, h => by
    simp only [List.length_cons] at h
    simp only [List.zipIdx_cons, List.foldl_cons]
    rw [foldl_set l (k + 1) off _ (by simp; omega)]
    have hlt : off + k < cs.toList.length := by simp; omega
    simp only [Array.toList_setIfInBounds, List.length_cons]
    rw [List.take_set, List.drop_set_of_lt (by omega)]
    rw [show off + (k + 1) = off + k + 1 by omega, List.take_succ_eq_append_getElem hlt]
    rw [List.set_append_right _ _ (by simp; omega)]
    have : off + k - (cs.toList.take (off + k)).length = 0 := by simp; omega
    rw [this]
    simp [Nat.add_comm 1 l.length, Nat.add_assoc]

theorem cells_reps {C : Cx} {d : D} {v : Value} (h : rep C d v) (hl : d.cells.length = v.cells.size) : reps C d.cells v.cells.toList := by
  cases d with
  | agg l =>
    simp only [rep] at h
    obtain ⟨cs, rfl, h⟩ := h
    simpa [D.cells, Value.cells] using h
  | tuple l => simp only [D.cells, List.length_nil] at hl; simp only [D.cells, reps]; exact List.eq_nil_of_length_eq_zero (by simpa using hl.symm)
  | undef => simp only [D.cells, List.length_nil] at hl; simp only [D.cells, reps]; exact List.eq_nil_of_length_eq_zero (by simpa using hl.symm)
  | «when» c d => simp only [D.cells, List.length_nil] at hl; simp only [D.cells, reps]; exact List.eq_nil_of_length_eq_zero (by simpa using hl.symm)
  | _ =>
    have hv : v.cells = #[v] := by
      simp only [rep] at h
      first
        | (subst h; rfl)
        | (obtain ⟨rfl, _⟩ := h; rfl)
        | (obtain ⟨_, _, rfl, _⟩ := h; rfl)
        | (obtain ⟨_, _, _, rfl, _⟩ := h; rfl)
        | (obtain ⟨_, _, _, _, _, rfl⟩ := h; rfl)
        | (obtain ⟨_, _, _, _, rfl⟩ := h; rfl)
        | (obtain ⟨_, rfl, _⟩ := h; rfl)
    rw [hv]
    simp only [D.cells, reps]
    exact ⟨v, [], rfl, h, rfl⟩

/-- the number of cells of what reads as a datum -/
theorem cells_size {C : Cx} {d : D} {v : Value} (h : rep C d v) (hd : d.cells ≠ []) : v.cells.size = d.cells.length := by
  cases d with
  | agg l =>
    simp only [rep] at h
    obtain ⟨cs, rfl, h⟩ := h
    simpa [D.cells, Value.cells] using reps_length _ _ h
  | tuple l => exact absurd rfl hd
  | undef => exact absurd rfl hd
  | «when» c d => exact absurd rfl hd
  | _ =>
    simp only [rep] at h
    first
      | (subst h; rfl)
      | (obtain ⟨rfl, _⟩ := h; rfl)
      | (obtain ⟨_, _, rfl, _⟩ := h; rfl)
      | (obtain ⟨_, _, _, rfl, _⟩ := h; rfl)
      | (obtain ⟨_, _, _, _, _, rfl⟩ := h; rfl)
      | (obtain ⟨_, _, _, _, rfl⟩ := h; rfl)
      | (obtain ⟨_, rfl, _⟩ := h; rfl)

theorem reps_splice {C : Cx} {l new : List D} {vs vnew : List Value} {off : Nat} (h : reps C l vs) (hn : reps C new vnew) : reps C (splice l off new) (vs.take off ++ vnew ++ vs.drop (off + vnew.length)) := by
  unfold splice
  rw [reps_length _ _ hn]
  exact reps_append _ _ _ _ (reps_append _ _ _ _ (reps_take _ _ _ h) hn) (reps_drop _ _ _ h)

theorem run_fill {C : Cx} {offs : List (Nat × Nat × Bool)} {place : Nat → Option (Nat × Nat)} (hpl : ∀ i o n b, offs[i]? = some (o, n, b) → place i = some (o, n) ∧ n ≠ 0) :
    ∀ (parts : List (Nat × D)) (vparts : List (Nat × Value)) (cells c : List D) (cv : Array Value) (p : Bool),
      parts.map (·.1) = vparts.map (·.1) → reps C (parts.map (·.2)) (vparts.map (·.2)) → reps C cells cv.toList → fillD offs cells parts = some (c, p) → p →
      ∃ cv', Instr.fill place cv vparts = some cv' ∧ reps C c cv'.toList
  | [], vparts, cells, c, cv, p, hm, hr, hc, h, hp => by
    cases vparts with
    | nil => simp only [fillD, Option.some.injEq, Prod.mk.injEq] at h; obtain ⟨rfl, _⟩ := h; exact ⟨cv, rfl, hc⟩
    | cons x xs => simp at hm
  | (i, d) :: r, vparts, cells, c, cv, p, hm, hr, hc, h, hp => by
    cases vparts with
    | nil => simp at hm
    | cons x xs =>
      obtain ⟨i', v⟩ := x
      simp only [List.map_cons, List.cons.injEq] at hm
      obtain ⟨rfl, hm⟩ := hm
      simp only [List.map_cons, reps] at hr
      obtain ⟨v', vs', he, hd, hr⟩ := hr
      obtain ⟨rfl, rfl⟩ := List.cons.inj he
      simp only [fillD] at h
      split at h
      · rename_i o n b ho
        split at h
        · rename_i c' p' hf
          simp only [Option.some.injEq, Prod.mk.injEq] at h
          obtain ⟨rfl, rfl⟩ := h
          simp only [Bool.and_eq_true] at hp
          obtain ⟨⟨h1, h2⟩, h3⟩ := hp
          have h1 := Nat.eq_of_beq_eq_true h1
          have h2 := Nat.le_of_ble_eq_true h2
          obtain ⟨hpl1, hn0⟩ := hpl i o n b ho
          have hne : d.cells ≠ [] := fun e => by rw [e] at h1; simp at h1; omega
          have hvs := cells_size hd hne
          have hcl := reps_length _ _ hc
          have hcl' : cv.size = cells.length := by simpa using hcl
          have hfold := foldl_set v.cells.toList 0 o cv (by simp; omega)
          have hz : v.cells.zipIdx = (v.cells.toList.zipIdx 0).toArray := by apply Array.ext'; simp
          simp only [Instr.fill, hpl1]
          rw [if_neg (by simp; omega)]
          refine run_fill hpl r xs _ _ _ p' hm hr ?_ hf h3
          have e : (Array.foldl (fun cs x => match x with | (c, j) => cs.setIfInBounds (o + j) c) cv v.cells.zipIdx).toList = cv.toList.take (o + 0) ++ v.cells.toList ++ cv.toList.drop (o + 0 + v.cells.toList.length) := by
            rw [← hfold, hz]
            simp
          rw [e]
          exact reps_splice hc (cells_reps hd hvs.symm)
        · cases h
      · cases h

theorem reps_opdsL {rd : Nat → D} (hr : ∀ t, rep C (rd t) (a.eval (.tmp t))) : ∀ (l : List (Nat × Operand)) (ds : List (Nat × D)) (p : Bool), opdsL true rd l = (ds, p) → p → (l.map (·.2)).all operandOk = true →
    reps C (ds.map (·.2)) (l.map fun x => a.eval x.2) ∧ ds.map (·.1) = l.map (·.1)
  | [], ds, p, h, _, _ => by simp only [opdsL] at h; cases h; simp only [reps, List.map_nil]; exact ⟨trivial, trivial⟩
  | (i, x) :: r, ds, p, h, hp, hk => by
    simp only [opdsL] at h
    cases h1 : opd true rd x with
    | mk d p1 =>
      cases h2 : opdsL true rd r with
      | mk ds' p2 =>
        rw [h1, h2] at h
        cases h
        simp only [List.map_cons, List.all_cons, Bool.and_eq_true] at hk
        have hp := (Bool.and_eq_true _ _).mp hp
        obtain ⟨g1, g2⟩ := reps_opdsL hr r ds' p2 h2 hp.2 hk.2
        simp only [reps, List.map_cons, g2]
        exact ⟨⟨_, _, rfl, rep_opd hr hk.1 h1 hp.1 rfl, g1⟩, trivial⟩

theorem q_build {o : Oper} {t : TypeId} {ti : TI} {ps : Array (Nat × Operand)} {ds : List (Nat × D)} {c : List D} {q : Bool} (ho : o.op = .build t ps) (ht : tiChk P t ti = true) (hk : ti.kind = 2)
    (hr : reps C (ds.map (·.2)) (ps.toList.map fun x => a.eval x.2)) (hm : ds.map (·.1) = ps.toList.map (·.1)) (h : fillD ti.offs ti.zero ds = some (c, q)) (hq : q = true) : Quiet P C a o (.agg c) w := by
  obtain ⟨i, d, hi, hd, hs, ⟨z, hz, hzc⟩, _⟩ := tiChk_parts ht
  obtain ⟨i', fs, hi', hu, hsz, hoffs, hall⟩ := ti_struct ht hk
  have hzr : reps C ti.zero z.cells.toList := reps_zero _ _ hzc
  have hsz : ∀ f ∈ fs.toList, (sizeOf f.type).run P w = .ok (P.cellsOf f.type) w := by
    intro f hf
    obtain ⟨j, hj⟩ := Option.isSome_iff_exists.1 (hall f hf).1
    simp [sizeOf, typeInfo, hj, Program.cellsOf]
  have hplaces : (fs.mapM fun f => do pure (f.offset, ← sizeOf f.type) : Sem (Array (Nat × Nat))).run P w = .ok (fs.map fun f => (f.offset, P.cellsOf f.type)) w := by
    have key : ∀ (l : List Field), (∀ f ∈ l, (sizeOf f.type).run P w = .ok (P.cellsOf f.type) w) → (l.mapM (fun f => Prod.mk f.offset <$> sizeOf f.type) : Sem (List (Nat × Nat))).run P w = .ok (l.map fun f => (f.offset, P.cellsOf f.type)) w := by
      intro l
      induction l with
      | nil => intro _; simp
      | cons f l ih =>
        intro h
        simp [List.mapM_cons, h f (by simp), ih fun g hg => h g (by simp [hg])]
    have := key fs.toList hsz
    rw [Array.mapM_eq_mapM_toList]
    simp only [bind_pure_comp, Sem.run_map, this, Result.andThen_ok]
    congr 1
    apply Array.ext'; simp
  have hvp : (ps.map fun (i, x) => (i, a.eval x)).toList.map (·.1) = ps.toList.map (·.1) := by simp
  have hvp2 : (ps.map fun (i, x) => (i, a.eval x)).toList.map (·.2) = ps.toList.map fun x => a.eval x.2 := by simp
  obtain ⟨cv, hf, hc⟩ := run_fill (C := C) (offs := ti.offs) (place := fun i => (fs.map fun f => (f.offset, P.cellsOf f.type))[i]?) (by
    intro i o n b h
    rw [hoffs] at h
    simp only [List.getElem?_map, Option.map_eq_some_iff, Prod.mk.injEq] at h
    obtain ⟨fd, hfd, rfl, rfl, rfl⟩ := h
    have hfd' : fs[i]? = some fd := by simpa using hfd
    exact ⟨by simp [hfd'], (hall fd (List.mem_of_getElem? hfd)).2.2⟩) ds (ps.map fun (i, x) => (i, a.eval x)).toList ti.zero c z.cells q (by rw [hm, hvp]) (by rw [hvp2]; exact hr) hzr h hq
  refine ⟨.agg cv, ?_, by simp only [rep]; exact ⟨cv.toList, rfl, hc⟩⟩
  unfold execOp
  simp only [ho, Instr.build, zeroValue, typeInfo, hi, hz, Sem.run_bind, run_program, Result.andThen_ok, Sem.run_pure, run_underlying hu, hplaces, hf]
theorem q_cap {o : Oper} {t : TypeId} {ti : TI} {x : Operand} {d : D} {n : Nat} {c : Call} (ho : o.op = .call c) (hc : c.callee = .builtin .cap) (hca : c.args.toList = [x]) (hct : c.argTypes.toList = [t]) (ht : tiChk P t ti = true) (hk : ti.kind = 3)
    (hx : rep C d (a.eval x)) (hd : (∃ s l k, d = .imm s l k ∧ n = l.length ∧ (k % 8 ≤ 1 ∨ k % 8 = 3)) ∨ ∃ id s off len, d = .ref id s off len (some n)) :
    Quiet P C a o (.int .i64 n) w := by
  have e1 : c.args = #[x] := by apply Array.ext'; simpa using hca
  have e2 : c.argTypes = #[t] := by apply Array.ext'; simpa using hct
  obtain ⟨e, ji, hu, hj, _⟩ := ti_slice ht hk
  have run : ∀ ad len, a.eval x = .slice ad len n → ((n : Int) ≤ 9223372036854775807) → Quiet P C a o (.int .i64 n) w := by
    intro ad len hv hn
    refine ⟨.int .i64 n, ?_, ?_⟩
    · unfold execOp; simp [ho, resolve, hc, e1, e2, hv, invoke, builtin, Builtin.cap_, run_underlying hu, goInt]
    · simp only [rep]
      refine ⟨trivial, ?_, ?_⟩ <;> simp [IntKind.min, IntKind.max, IntKind.signed, IntKind.bits] <;> omega
  rcases hd with ⟨s, l, k, rfl, rfl, hk⟩ | ⟨id, s, off, len, rfl⟩
  · simp only [rep] at hx
    obtain ⟨ad, cap, hx, g1, g2, g3, g4, g5, _⟩ := hx
    have := g5 hk
    subst this
    exact run _ _ hx g2
  · simp only [rep] at hx
    obtain ⟨_, ad, cap, hx, g1, g2, g3, g4, _⟩ := hx
    have := g4.1 _ rfl
    subst this
    exact run _ _ hx g2

theorem q_conv_str {o : Oper} {t t' : TypeId} {ti ti' : TI} {x : Operand} {l : List UInt8} (ho : o.op = .convert t' t x) (ht : tiChk P t ti = true) (ht' : tiChk P t' ti' = true) (hk : ti.kind = 5)
    (hx : rep C (.str l) (a.eval x)) : Quiet P C a o (.str l) w := by
  have hu := ti_string ht hk
  obtain ⟨i', d', hi', hd', _⟩ := tiChk_parts ht'
  have hx' := hx
  simp only [rep] at hx'
  obtain ⟨hx', _⟩ := hx'
  rw [hx'] at hx
  refine ⟨.string ⟨l.toArray⟩, ?_, hx⟩
  unfold execOp
  cases d' <;> simp [ho, hx', convert, run_underlying hu, run_underlying hd']

theorem keyEq_run {k k' : D} {v v' : Value} {r : Bool} {td : TypeDesc} (htd : (∃ i, td = .int i) ∨ td = .string) (h : keyEq k k' = some r) (hk : rep C k v) (hk' : rep C k' v') (hty : ∀ i n, k = .int i n → ∃ j, td = .int j) (hty' : ∀ l, k = .str l → td = .string) :
    Instr.sameNow td v v' = some r := by
  unfold keyEq at h
  split at h
  · rename_i i a i' b
    simp only [rep] at hk hk'
    obtain ⟨rfl, _⟩ := hk
    obtain ⟨rfl, _⟩ := hk'
    obtain ⟨j, rfl⟩ := hty _ _ rfl
    cases hd : decide (i = i')
    · rw [hd] at h; cases h
    · rw [hd] at h
      simp only [decide_eq_true_eq] at hd
      subst hd
      simp only [cond_true, Option.some.injEq] at h
      simp [Instr.sameNow, h]
  · rename_i l l'
    simp only [rep] at hk hk'
    obtain ⟨rfl, _⟩ := hk
    obtain ⟨rfl, _⟩ := hk'
    have := hty' _ rfl
    subst this
    simp only [Option.some.injEq] at h
    simp only [Instr.sameNow, Option.some.injEq]
    rw [← h]
    show (l.toArray == l'.toArray) = (l == l')
    simp
  · cases h

theorem findD_run {k : D} {v : Value} {td : TypeDesc} (htd : (∃ i, td = .int i) ∨ td = .string) (hk : rep C k v) (hty : ∀ i n, k = .int i n → ∃ j, td = .int j) (hty' : ∀ l, k = .str l → td = .string) :
    ∀ (es : List (D × D)) (ens : List MapEntry) (i : Nat) (r : Option D), entsOk C es ens → findD k es = some r → ∃ q, Instr.findNow td v ens i = some q ∧ (match r, q with | some d, some (_, x) => rep C d x | none, none => True | _, _ => False)
  | [], ens, i, r, h, hf => by
    simp only [entsOk] at h
    subst h
    simp only [findD, Option.some.injEq] at hf
    subst hf
    exact ⟨none, rfl, trivial⟩
  | (x, y) :: es, ens, i, r, h, hf => by
    simp only [entsOk] at h
    obtain ⟨e, ens', rfl, ⟨h1, h2⟩, h3⟩ := h
    simp only [findD] at hf
    split at hf
    · rename_i hke
      cases hf
      have := keyEq_run htd hke hk h1 hty hty'
      exact ⟨some (i, e.val), by simp only [Instr.findNow, this], h2⟩
    · rename_i hke
      have := keyEq_run htd hke hk h1 hty hty'
      obtain ⟨q, h4, h5⟩ := findD_run htd hk hty hty' es ens' (i + 1) r h3 hf
      exact ⟨q, by simp only [Instr.findNow, this]; exact h4, h5⟩
    · cases hf

theorem zeroEl_rep {ti : TI} {z : Value} (hzc : zeroChk ti.ezero z.cells.toList = true) (hsz : isAggV z = ti.eagg) : rep C (zeroEl ti) z := by
  have := reps_zero (C := C) _ _ hzc
  unfold zeroEl
  cases he : ti.eagg
  · rw [he] at hsz
    have hc : z.cells = #[z] := by cases z <;> first | rfl | simp [isAggV] at hsz
    rw [hc] at this
    simp only [cond_false]
    cases hl : ti.ezero with
    | nil => rw [hl] at this; simp [reps] at this
    | cons d ds =>
      rw [hl] at this
      simp only [reps] at this
      obtain ⟨u, us, h1, h2, _⟩ := this
      simp only [List.cons.injEq] at h1
      rw [h1.1]; exact h2
  · rw [he] at hsz
    simp only [cond_true, rep]
    cases z <;> simp [isAggV] at hsz
    exact ⟨_, by simp [Value.cells], this⟩
end
end Go.Tm

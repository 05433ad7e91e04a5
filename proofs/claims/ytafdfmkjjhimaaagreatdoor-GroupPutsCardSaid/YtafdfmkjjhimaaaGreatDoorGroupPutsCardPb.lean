/- Texts of the proof. -/
import Derived.Deep.AppendSrc
import Derived.Test.YtafdfmkjjhimaaaGreatDoorGroupPutsCardPa
namespace Go.Tm
open Go.RowKit Go.WideShapes
section
variable {P : Program} {C : Cx} {a : Act} {w : World}
theorem ze3 {k : IntKind} {i : Int} {y : Nat} {code : BoundsCode} (h0 : 0 <= i) (h1 : i <= y) : (Instr.sliceBound (.int k i) y code).run P w = .ok i.toNat w := by
 simp [Instr.sliceBound, asIntOf, h0, h1]
def zgu (C : Cx) (a : Act) : Option Operand -> Option D -> Prop
 | none, none => True
 | some x, some d => rep C d (a.eval x)
 | _, _ => False
theorem zjn {isS : Bool} {len cap L : Nat} {lo hi : Option Operand} {dlo dhi : Option D} {i j : Int} {v : Bool}
  (hlo : zgu C a lo dlo) (hhi : zgu C a hi dhi) (h : zgc L dlo dhi = some (i, j, v)) (hv : v = true) (hc : L <= cap) (hL : dhi = none -> L = len) :
  (Instr.sliceBounds isS len cap (lo.map a.eval) (hi.map a.eval) none).run P w = .ok (i.toNat, j.toNat, cap) w /\ 0 <= i /\ i <= j /\ j <= L := by
 cases lo with
 | none =>
  cases dlo with
  | some d => exact hlo.elim
  | none =>
   cases hi with
   | none =>
    cases dhi with
    | some d => exact hhi.elim
    | none =>
     simp only [zgc, za3, za6] at h
     obtain ⟨rfl, rfl, rfl⟩ := h
     have := hL rfl
     subst this
     simp [Instr.sliceBounds]
   | some y =>
    cases dhi with
    | none => exact hhi.elim
    | some d =>
     cases d <;> simp only [zgc, za3, za6, reduceCtorEq] at h
     rename_i k b
     obtain ⟨rfl, rfl, rfl⟩ := h
     simp only [zgu, rep] at hhi
     simp only [za0, decide_eq_true_eq] at hv
     simp [Instr.sliceBounds, hhi.1, ze3 (P := P) (w := w) (k := k) hv.1 (show b <= cap by omega), hv.1, hv.2]
 | some x =>
  cases dlo with
  | none => exact hlo.elim
  | some dl =>
   cases hi with
   | none =>
    cases dhi with
    | some d => exact hhi.elim
    | none =>
     cases dl <;> simp only [zgc, za3, za6, reduceCtorEq] at h
     rename_i k b
     obtain ⟨rfl, rfl, rfl⟩ := h
     simp only [zgu, rep] at hlo
     have := hL rfl
     subst this
     simp only [za0, decide_eq_true_eq] at hv
     simp [Instr.sliceBounds, hlo.1, ze3 (P := P) (w := w) (k := k) hv.1 hv.2, hv.1, hv.2]
   | some y =>
    cases dhi with
    | none => exact hhi.elim
    | some dh =>
     cases dl <;> cases dh <;> simp only [zgc, za3, za6, reduceCtorEq] at h
     rename_i k b k' b'
     obtain ⟨rfl, rfl, rfl⟩ := h
     simp only [zgu, rep] at hlo hhi
     simp only [za0, decide_eq_true_eq] at hv
     obtain ⟨⟨v1, v2⟩, v3⟩ := hv
     have e1 := fun c => ze3 (P := P) (w := w) (k := k') (code := c) (show 0 <= b' by omega) (show b' <= cap by omega)
     have e2 := fun c => ze3 (P := P) (w := w) (k := k) (y := b'.toNat) (code := c) v1 (by omega)
     simp [Instr.sliceBounds, hlo.1, hhi.1, e1, e2, v1, v2, v3]
theorem zp7 {len cap L : Nat} {lo hi : Option Operand} {mx : Operand} {dlo dhi : Option D} {dmx : D} {i j m : Int} {v : Bool}
  (hlo : zgu C a lo dlo) (hhi : zgu C a hi dhi) (hmx : rep C dmx (a.eval mx)) (h : zkf L dlo dhi (some dmx) = some (i, j, m, v)) (hv : v = true) (hc : L <= cap) :
  (Instr.sliceBounds true len cap (lo.map a.eval) (hi.map a.eval) (some (a.eval mx))).run P w = .ok (i.toNat, j.toNat, m.toNat) w /\ 0 <= i /\ i <= j /\ j <= m /\ m <= L := by
 unfold zkf at h
 split at h
 rename_i k b k' m' he2
 cases he2
 simp only [rep] at hmx
 cases hi with
 | none => exact hhi.elim
 | some y =>
  simp only [zgu, rep] at hhi
  split at h
  cases lo with
  | some x => exact hlo.elim
  | none =>
   simp only [za3, za6] at h
   obtain ⟨rfl, rfl, rfl, rfl⟩ := h
   simp only [za0, decide_eq_true_eq] at hv
   obtain ⟨⟨v1, v2⟩, v3⟩ := hv
   have e1 := fun c => ze3 (P := P) (w := w) (k := k') (code := c) (show 0 <= m' by omega) (show m' <= cap by omega)
   have e2 := fun c => ze3 (P := P) (w := w) (k := k) (y := m'.toNat) (code := c) v1 (by omega)
   simp [Instr.sliceBounds, hmx.1, hhi.1, e1, e2, v1, v2, v3]
  cases lo with
  | none => exact hlo.elim
  | some x =>
   rename_i k2 a2
   simp only [zgu, rep] at hlo
   simp only [za3, za6] at h
   obtain ⟨rfl, rfl, rfl, rfl⟩ := h
   simp only [za0, decide_eq_true_eq] at hv
   obtain ⟨⟨⟨v1, v2⟩, v3⟩, v4⟩ := hv
   have e1 := fun c => ze3 (P := P) (w := w) (k := k') (code := c) (show 0 <= m' by omega) (show m' <= cap by omega)
   have e2 := fun c => ze3 (P := P) (w := w) (k := k) (y := m'.toNat) (code := c) (show 0 <= b by omega) (by omega)
   have e3 := fun c => ze3 (P := P) (w := w) (k := k2) (y := b.toNat) (code := c) v1 (by omega)
   simp [Instr.sliceBounds, hmx.1, hhi.1, hlo.1, e1, e2, e3, v1, v2, v3, v4]
  cases h
 cases h
theorem zg6 {C : Cx} : ∀ (l : List D) (k b o s : Nat), elems C l b o s -> elems C (l.take k) b o s
 | l, 0, b, o, s, h => by simp only [List.take_zero, elems]
 | [], k + 1, b, o, s, h => by simp only [List.take_nil, elems]
 | d :: ds, k + 1, b, o, s, h => by
  simp only [elems] at h
  simp only [List.take_succ_cons, elems]
  exact ⟨h.1, zg6 ds k b (o + s) s h.2⟩
theorem ya1s {s c c' : Nat} {l : List D} {ad : Option Addr} {cap i j m : Nat} (hx : rep C (.imm s l c) (.slice ad l.length cap)) (h1 : i <= j) (h2 : j <= l.length) (h3 : j <= m) (h4 : m <= cap)
  (hc : c % 8 = 0 /\ c' = c \/ c' / 8 = c / 8 /\ (c' % 8 = 4 \/ c' % 8 = 3 /\ m = j \/ c' % 8 = 1 /\ m = j /\ (c % 8 = 1 \/ c % 8 = 2))) :
  rep C (.imm s ((l.take j).drop i) c') (.slice (if m = i then ad else ad.map (·.add (i * s))) (j - i) (m - i)) := by
 simp only [rep] at hx ⊢
 obtain ⟨ad', cap', he, g1, g2, g3, g4, g5, g6, hfl, g7⟩ := hx
 simp only [Value.slice.injEq] at he
 obtain ⟨rfl, _, rfl⟩ := he
 have hlen : ((l.take j).drop i).length = j - i := by simp; omega
 have hc8 : c' / 8 = c / 8 := by rcases hc with ⟨_, rfl⟩ | h; rfl; exact h.1
 rw [hc8]
 refine ⟨_, _, by rw [hlen], by omega, by omega, ?_, ?_, ?_, ?_, hfl, ?_⟩
 intro h0
 rcases hc with ⟨hc, rfl⟩ | ⟨_, hc⟩
 have := g3 hc
 subst this
 simp
 omega
 intro h0
 rcases hc with ⟨hc, rfl⟩ | ⟨_, hc⟩
 omega
 have := g4 (by omega)
 split
 exact this
 simpa using this
 intro h0
 rcases hc with ⟨hc, rfl⟩ | ⟨_, hc⟩
 have h5 := g5 (by omega)
 have h6 := g6 (g3 hc)
 omega
 omega
 intro hn
 have : ad = none := by split at hn <;> simpa using hn
 have := g6 this
 omega
 ·rcases g7 with rfl | g7
  left; simp
  by_cases he : j - i = 0
  left
  exact zad (by omega)
  right
  intro Z hZ
  obtain ⟨a0, rfl, hsp, hM, hlo', hbk, hel⟩ := g7 Z hZ
  have hne : m ≠ i := by omega
  refine ⟨⟨a0.block, a0.off + i * s, none⟩, ?_, rfl, hM, hlo', ⟨hbk.1, fun h => by omega⟩, ?_⟩
  ·simp only [hne, if_false, Option.map_some, za3]
   unfold Addr.add
   split
   ·cases a0; simp_all
   rfl
  exact zhc _ _ _ _ _ (zg6 _ _ _ _ _ hel)
theorem ya14 {id s off len : Nat} {oc oc' : Option Nat} {ad : Option Addr} {cap i j m : Nat} (hx : rep C (.ref id s off len oc) (.slice ad len cap)) (h1 : i <= j) (h3 : j <= m) (h4 : m <= cap) (hc : ∀ c, oc' = some c -> capK c = true -> m - i = c) (hn : oc' = none -> oc = none /\ m = cap) :
  rep C (.ref id s (off + i) (j - i) oc') (.slice (if m = i then ad else ad.map (·.add (i * s))) (j - i) (m - i)) := by
 simp only [rep] at hx ⊢
 obtain ⟨h0, ad', cap', he, g1, g2, g3, goc, g4⟩ := hx
 simp only [Value.slice.injEq] at he
 obtain ⟨rfl, _, rfl⟩ := he
 refine ⟨h0, _, _, rfl, by omega, by omega, ?_, ⟨hc, fun ho => ?_⟩, ?_⟩
 rotate_left
 obtain ⟨k1, k2⟩ := hn ho
 obtain ⟨b, T, nn, hσ, hsh, hnn⟩ := goc.2 k1
 refine ⟨b, T, nn, hσ, hsh, ?_⟩
 subst k2
 have e1 : (off + i) * s = off * s + i * s := Nat.add_mul _ _ _
 have e2 : (m - i) * s = m * s - i * s := Nat.sub_mul _ _ _
 have e4 : i * s <= m * s := Nat.mul_le_mul_right _ (by omega)
 omega
 rotate_left
 intro hn
 have : ad = none := by split at hn <;> simpa using hn
 have := g3 this
 omega
 by_cases he : m - i = 0
 exact .inl he
 right
 rcases g4 with g4 | ⟨b, T, nn, hσ, rfl, hsh, hn⟩
 omega
 have hne : m ≠ i := by omega
 refine ⟨b, T, nn, hσ, ?_, hsh, ?_⟩
 simp only [hne, if_false, Option.map_some, za3]
 unfold Addr.add
 split
 rename_i h0
 simp only [Nat.add_mul, h0, Nat.add_zero]
 simp only [Nat.add_mul]
 have e1 : (off + i) * s = off * s + i * s := Nat.add_mul _ _ _
 have e2 : (m - i) * s = m * s - i * s := Nat.sub_mul _ _ _
 have e3 : m * s <= cap * s := Nat.mul_le_mul_right _ h4
 have e4 : i * s <= m * s := Nat.mul_le_mul_right _ (by omega)
 omega
theorem zjo {t e : TypeId} {ji : TypeInfo} {ad : Option Addr} {len cap : Nat} {lo hi mx : Option Value} {i j m : Nat} (hu : P.underlying t = some (.slice e)) (hj : P.info? e = some ji)
  (hb : (Instr.sliceBounds true len cap lo hi mx).run P w = .ok (i, j, m) w) :
  (Instr.sliceAt t (.slice ad len cap) lo hi mx).run P w = .ok (.slice (if m = i then ad else ad.map (·.add (i * ji.size))) (j - i) (m - i)) w := by
 simp [Instr.sliceAt, Instr.slice, run_underlying hu, hb, sizeOf, typeInfo, hj]
theorem zy3 {C : Cx} {s s' c : Nat} {l : List D} {v : Value} (h : rep C (.imm s l c) v) (hs : (Nat.beq s s' || l.isEmpty) = true) : rep C (.imm s' l c) v := by
 simp only [zas, List.isEmpty_iff] at hs
 rcases hs with hs | rfl
 rw [<- nb hs]; exact h
 simp only [rep] at h ⊢; exact h
theorem zww {o : Oper} {t : TypeId} {ti : TI} {x : Operand} {lo hi : Option Operand} {dlo dhi : Option D} {s c : Nat} {l : List D} {i j : Int} {v : Bool} (ho : o.op = .slice t x lo hi none)
  (ht : zd0 P t ti = true) (hk : ti.kind = 3) (hx : rep C (.imm s l c) (a.eval x)) (hlo : zgu C a lo dlo) (hhi : zgu C a hi dhi) (h : zgc l.length dlo dhi = some (i, j, v)) (hv : v = true) (hs : s = ti.esz) :
  zfd P C a o (.imm s ((l.take j.toNat).drop i.toNat) (bif c % 8 == 0 then c else c - c % 8 + 4)) w := by
 obtain ⟨e, ji, hu, hj, hj1, hj2, hj3, hj4, _, _⟩ := zcj ht hk
 have hx' := hx
 simp only [rep] at hx'
 obtain ⟨ad, cap, he, g1, _⟩ := hx'
 rw [he] at hx
 obtain ⟨hb, b0, b1, b2⟩ := zjn (P := P) (w := w) (isS := true) (len := l.length) (cap := cap) hlo hhi h hv g1 (fun _ => rfl)
 have hsl := zjo (ad := ad) hu hj hb
 refine ⟨_, by unfold execOp; simp only [ho, Option.map_none, he]; simp only [Sem.run_bind, hsl, Result.andThen_ok, Sem.run_pure]; rfl, ?_⟩
 rw [hj1, <- hs]
 refine ya1s hx (by omega) (by omega) (by omega) (za4 _) ?_
 cases hc : c % 8 == 0
 right
 simp only [cond_false]
 exact ⟨by omega, .inl (by omega)⟩
 left
 exact ⟨by simpa using hc, rfl⟩
theorem zwv {o : Oper} {t : TypeId} {ti : TI} {x : Operand} {lo hi : Option Operand} {dlo dhi : Option D} {id s off len L : Nat} {oc : Option Nat} {i j : Int} {v : Bool} (ho : o.op = .slice t x lo hi none)
  (ht : zd0 P t ti = true) (hk : ti.kind = 3) (hx : rep C (.ref id s off len oc) (a.eval x)) (hlo : zgu C a lo dlo) (hhi : zgu C a hi dhi) (h : zgc L dlo dhi = some (i, j, v)) (hv : v = true) (hs : s = ti.esz)
  (hL : L = len \/ (∀ ad cap, a.eval x = .slice ad len cap -> L <= cap) /\ dhi ≠ none) :
  zfd P C a o (.ref id s (off + i.toNat) (j - i).toNat (capS oc i.toNat)) w := by
 obtain ⟨e, ji, hu, hj, hj1, hj2, hj3, hj4, _, _⟩ := zcj ht hk
 have hx' := hx
 simp only [rep] at hx'
 obtain ⟨_, ad, cap, he, g1, _, _, goc, _⟩ := hx'
 rw [he] at hx
 have hLc : L <= cap := by
  rcases hL with rfl | ⟨h1, _⟩
  exact g1
  exact h1 _ _ he
 obtain ⟨hb, b0, b1, b2⟩ := zjn (P := P) (w := w) (isS := true) (len := len) (cap := cap) hlo hhi h hv hLc (fun hn => by
  rcases hL with h | ⟨_, h⟩
  exact h
  exact absurd hn h)
 have hsl := zjo (ad := ad) hu hj hb
 refine ⟨_, by unfold execOp; simp only [ho, Option.map_none, he]; simp only [Sem.run_bind, hsl, Result.andThen_ok, Sem.run_pure]; rfl, ?_⟩
 rw [hj1, <- hs, show (j - i).toNat = j.toNat - i.toNat by omega]
 refine ya14 hx (by omega) (by omega) (za4 _) ?_ (fun h => ⟨by cases oc <;> simp_all [capS], rfl⟩)
 intro c hc hkc
 cases oc with
 | none => cases hc
 | some c0 =>
  simp only [capS, za3] at hc
  cases hk0 : capK c0
  rw [hk0] at hc
  simp only [cond_false] at hc
  rw [<- hc, hk0] at hkc; cases hkc
  rw [hk0] at hc
  simp only [cond_true] at hc
  have := goc.1 _ rfl hk0
  omega
theorem zvd {o : Oper} {t : TypeId} {ti : TI} {x mx : Operand} {lo hi : Option Operand} {dlo dhi : Option D} {dmx : D} {s c : Nat} {l : List D} {i j m : Int} {v : Bool} (ho : o.op = .slice t x lo hi (some mx))
  (ht : zd0 P t ti = true) (hk : ti.kind = 3) (hx : rep C (.imm s l c) (a.eval x)) (hlo : zgu C a lo dlo) (hhi : zgu C a hi dhi) (hmx : rep C dmx (a.eval mx)) (h : zkf l.length dlo dhi (some dmx) = some (i, j, m, v)) (hv : v = true) (hs : s = ti.esz) :
  zfd P C a o (.imm s ((l.take j.toNat).drop i.toNat) (bif c % 8 == 0 then c else bif m == j then (bif (c % 8 == 1 || c % 8 == 2) then c - c % 8 + 1 else c - c % 8 + 3) else c - c % 8 + 4)) w := by
 obtain ⟨e, ji, hu, hj, hj1, hj2, hj3, hj4, _, _⟩ := zcj ht hk
 have hx' := hx
 simp only [rep] at hx'
 obtain ⟨ad, cap, he, g1, _⟩ := hx'
 rw [he] at hx
 obtain ⟨hb, b0, b1, b2, b3⟩ := zp7 (P := P) (w := w) (len := l.length) (cap := cap) hlo hhi hmx h hv g1
 have hsl := zjo (ad := ad) hu hj hb
 refine ⟨_, by unfold execOp; simp only [ho, Option.map_some, he]; simp only [Sem.run_bind, hsl, Result.andThen_ok, Sem.run_pure]; rfl, ?_⟩
 rw [hj1, <- hs]
 refine ya1s hx (by omega) (by omega) (by omega) (by omega) ?_
 cases hc : c % 8 == 0
 right
 simp only [cond_false]
 cases hm : m == j
 simp only [cond_false]
 exact ⟨by omega, .inl (by omega)⟩
 simp only [cond_true]
 simp only [beq_iff_eq] at hm
 cases hd : (c % 8 == 1 || c % 8 == 2)
 simp only [cond_false]
 exact ⟨by omega, .inr (.inl ⟨by omega, by omega⟩)⟩
 simp only [cond_true]
 simp only [zas, beq_iff_eq] at hd
 exact ⟨by omega, .inr (.inr ⟨by omega, by omega, hd⟩)⟩
 left
 exact ⟨by simpa using hc, rfl⟩
theorem zm6 {o : Oper} {t : TypeId} {ti : TI} {x mx : Operand} {lo hi : Option Operand} {dlo dhi : Option D} {dmx : D} {id s off len L : Nat} {oc : Option Nat} {i j m : Int} {v : Bool} (ho : o.op = .slice t x lo hi (some mx))
  (ht : zd0 P t ti = true) (hk : ti.kind = 3) (hx : rep C (.ref id s off len oc) (a.eval x)) (hlo : zgu C a lo dlo) (hhi : zgu C a hi dhi) (hmx : rep C dmx (a.eval mx)) (h : zkf L dlo dhi (some dmx) = some (i, j, m, v)) (hv : v = true) (hs : s = ti.esz)
  (hL : L = len \/ oc = some L /\ capK L = true) :
  zfd P C a o (.ref id s (off + i.toNat) (j - i).toNat (some (m - i).toNat)) w := by
 obtain ⟨e, ji, hu, hj, hj1, hj2, hj3, hj4, _, _⟩ := zcj ht hk
 have hx' := hx
 simp only [rep] at hx'
 obtain ⟨_, ad, cap, he, g1, _, _, goc, _⟩ := hx'
 rw [he] at hx
 have hLc : L <= cap := by
  rcases hL with rfl | h1
  exact g1
  exact Nat.le_of_eq (goc.1 _ h1.1 h1.2).symm
 obtain ⟨hb, b0, b1, b2, b3⟩ := zp7 (P := P) (w := w) (len := len) (cap := cap) hlo hhi hmx h hv hLc
 have hsl := zjo (ad := ad) hu hj hb
 refine ⟨_, by unfold execOp; simp only [ho, Option.map_some, he]; simp only [Sem.run_bind, hsl, Result.andThen_ok, Sem.run_pure]; rfl, ?_⟩
 rw [hj1, <- hs, show (j - i).toNat = j.toNat - i.toNat by omega]
 refine ya14 hx (by omega) (by omega) (by omega) ?_ (fun h => by cases h)
 intro c hc _
 simp only [za3] at hc
 omega
theorem zlb {o : Oper} {t : TypeId} {ti : TI} {x mx : Operand} {lo hi : Option Operand} {dlo dhi : Option D} {dmx : D} {id s off len L : Nat} {oc : Option Nat} {i j m : Int} {v : Bool} (ho : o.op = .slice t x lo hi (some mx))
  (ht : zd0 P t ti = true) (hk : ti.kind = 3) (hx : rep C (.ref id s off len oc) (a.eval x)) (hlo : zgu C a lo dlo) (hhi : zgu C a hi dhi) (hmx : rep C dmx (a.eval mx)) (h : zkf L dlo dhi (some dmx) = some (i, j, m, v)) (hv : v = true) (_ : s = ti.esz)
  (hL : L = len \/ oc = some L /\ capK L = true) (him : i = m) (hnz : ∀ ad cap, a.eval x = .slice ad len cap -> 0 < cap) :
  zfd P C a o (.imm ti.esz [] 1) w := by
 obtain ⟨e, ji, hu, hj, hj1, hj2, hj3, hj4, _, _⟩ := zcj ht hk
 have hx' := hx
 simp only [rep] at hx'
 obtain ⟨_, ad, cap, he, g1, _, g3, goc, _⟩ := hx'
 have hpos := hnz ad cap he
 have hLc : L <= cap := by
  rcases hL with rfl | h1
  exact g1
  exact Nat.le_of_eq (goc.1 _ h1.1 h1.2).symm
 obtain ⟨hb, b0, b1, b2, b3⟩ := zp7 (P := P) (w := w) (len := len) (cap := cap) hlo hhi hmx h hv hLc
 have hsl := zjo (ad := ad) hu hj hb
 refine ⟨_, by unfold execOp; simp only [ho, Option.map_some, he]; simp only [Sem.run_bind, hsl, Result.andThen_ok, Sem.run_pure]; rfl, ?_⟩
 subst him
 simp only [rep, zac]
 have e1 : j.toNat - i.toNat = 0 := by omega
 refine ⟨ad, 0, by simp [e1], by simp, by simp, by simp, fun _ hn => ?_, by simp, by simp, by simp, .inl trivial⟩
 have := g3 hn
 omega
theorem zwu {o : Oper} {t : TypeId} {ti : TI} {x : Operand} {lo hi : Option Operand} {dlo dhi : Option D} {l : List UInt8} {i j : Int} {v : Bool} (ho : o.op = .slice t x lo hi none)
  (ht : zd0 P t ti = true) (hk : ti.kind = 5) (hx : rep C (.str l) (a.eval x)) (hlo : zgu C a lo dlo) (hhi : zgu C a hi dhi) (h : zgc l.length dlo dhi = some (i, j, v)) (hv : v = true) :
  zfd P C a o (.str ((l.take j.toNat).drop i.toNat)) w := by
 have hu := zij ht hk
 simp only [rep] at hx
 obtain ⟨hx, hl⟩ := hx
 have hsz : (⟨l.toArray⟩ : ByteArray).size = l.length := by simp [ByteArray.size]
 obtain ⟨hb, b0, b1, b2⟩ := zjn (P := P) (w := w) (isS := false) (len := l.length) (cap := l.length) hlo hhi h hv (za4 _) (fun _ => rfl)
 have hsl : (Instr.sliceAt t (.string ⟨l.toArray⟩) (lo.map a.eval) (hi.map a.eval) none).run P w = .ok (.string ((⟨l.toArray⟩ : ByteArray).extract i.toNat j.toNat)) w := by
  simp [Instr.sliceAt, Instr.slice, run_underlying hu, hsz, hb]
 refine ⟨_, by unfold execOp; simp only [ho, Option.map_none, hx]; simp only [Sem.run_bind, hsl, Result.andThen_ok, Sem.run_pure]; rfl, ?_⟩
 simp only [rep]
 refine ⟨?_, by simp; omega⟩
 congr 1
 apply bytes_inj
 simp only [ByteArray.data_extract, List.extract_toArray, List.drop_take]
theorem ya4z {o : Oper} {t : TypeId} {ti : TI} {x : Operand} {d : D} {n : Nat} {c : Call} (ho : o.op = .call c) (hc : c.callee = .builtin .len) (hca : c.args.toList = [x]) (hct : c.argTypes.toList = [t]) (ht : zd0 P t ti = true)
  (hx : rep C d (a.eval x)) (hd : (ti.kind = 3 /\ ((∃ s l k, d = .imm s l k /\ n = l.length) \/ ∃ id s off oc, d = .ref id s off n oc)) \/ ti.kind = 5 /\ ∃ l, d = .str l /\ n = l.length) :
  zfd P C a o (.int .i64 n) w := by
 have e1 : c.args = #[x] := by apply Array.ext'; simpa using hca
 have e2 : c.argTypes = #[t] := by apply Array.ext'; simpa using hct
 have run : ∀ v, a.eval x = v -> (Builtin.len_ #[t] o.type #[v]).run P w = .ok (.int .i64 n) w -> zfd P C a o (.int .i64 n) w \/ ¬ ((n : Int) <= 9223372036854775807) := by
  intro v hv hr
  by_cases hn : (n : Int) <= 9223372036854775807
  left
  refine ⟨.int .i64 n, ?_, ?_⟩
  unfold execOp; simp [ho, resolve, hc, e1, e2, hv, invoke, builtin, hr]
  simp only [rep]
  refine ⟨trivial, ?_, ?_⟩ <;> simp [IntKind.min, IntKind.max, IntKind.signed, IntKind.bits] <;> omega
  exact .inr hn
 rcases hd with ⟨hk, ⟨s, l, k, rfl, rfl⟩ | ⟨id, s, off, oc, rfl⟩⟩ | ⟨hk, l, rfl, rfl⟩
 obtain ⟨e, ji, hu, hj, _⟩ := zcj ht hk
 simp only [rep] at hx
 obtain ⟨ad, cap, hx, g1, g2, _⟩ := hx
 exact (run _ hx (by simp [Builtin.len_, run_underlying hu, goInt])).resolve_right (by omega)
 obtain ⟨e, ji, hu, hj, _⟩ := zcj ht hk
 simp only [rep] at hx
 obtain ⟨_, ad, cap, hx, g1, g2, _⟩ := hx
 exact (run _ hx (by simp [Builtin.len_, run_underlying hu, goInt])).resolve_right (by omega)
 have hu := zij ht hk
 simp only [rep] at hx
 obtain ⟨hx, hl⟩ := hx
 have hsz : (⟨l.toArray⟩ : ByteArray).size = l.length := by simp [ByteArray.size]
 exact (run _ hx (by simp [Builtin.len_, run_underlying hu, goInt, hsz])).resolve_right (by omega)
theorem zjr {rd : Nat -> D} (hr : ∀ t, rep C (rd t) (a.eval (.tmp t))) : ∀ (l : List Operand) (ds : List D) (p : Bool), opds true rd l = (ds, p) -> p -> l.all zcz = true -> reps C ds (l.map a.eval)
 | [], ds, p, h, _, _ => by simp only [opds] at h; cases h; simp only [reps, List.map_nil]
 | x :: r, ds, p, h, hp, hk => by
  simp only [opds] at h
  cases h1 : opd true rd x with
  | mk d p1 =>
   cases h2 : opds true rd r with
   | mk ds' p2 =>
    rw [h1, h2] at h
    cases h
    simp only [List.all_cons, za0] at hk
    simp only [reps, zah]
    have hp := (za0 _ _).mp hp
    exact ⟨_, _, rfl, zjt hr hk.1 h1 hp.1 rfl, zjr hr r ds' p2 h2 hp.2 hk.2⟩
theorem zzl {o : Oper} {k : FuncId} {caps : Array Operand} {ds : List D} (ho : o.op = .makeFunc (.func k) #[] caps) (hr : reps C ds (caps.toList.map a.eval)) : zfd P C a o (.fn (.func k) ds) w := by
 refine ⟨.func (.func k) #[] (caps.map a.eval), by unfold execOp; simp [ho, Instr.makeFunc], ?_⟩
 simp only [rep]
 exact ⟨_, by show _ = Value.func _ #[] _; congr 1; apply Array.ext'; simp, hr⟩
theorem ya16 {o : Oper} {k : FuncId} {x : Operand} {d : D} (ho : o.op = .makeFunc (.func k) #[x] #[]) (hr : rep C d (a.eval x)) : zfd P C a o (.fn (.yield k) [d]) w := by
 refine ⟨.func (.func k) #[a.eval x] #[], by unfold execOp; simp [ho, Instr.makeFunc], ?_⟩
 simp only [rep]
 exact ⟨[a.eval x], rfl, by simp only [reps]; exact ⟨_, _, rfl, hr, rfl⟩⟩
theorem ya8m {o : Oper} {x y : Operand} {k : IntKind} {m m' : Int} {c : Call} (ho : o.op = .call c) (hc : c.callee = .builtin .max) (hca : c.args.toList = [x, y])
  (hx : rep C (.int k m) (a.eval x)) (hy : rep C (.int k m') (a.eval y)) : zfd P C a o (.int k (max m m')) w := by
 have e1 : c.args = #[x, y] := by apply Array.ext'; simpa using hca
 simp only [rep] at hx hy
 refine ⟨.int k (max m m'), ?_, by simp only [rep]; refine ⟨trivial, ?_, ?_⟩ <;> omega⟩
 unfold execOp
 simp [ho, resolve, hc, e1, hx.1, hy.1, invoke, builtin, Builtin.max_, Builtin.max2]
 split <;> omega
theorem ya8l {o : Oper} {x y : Operand} {k : IntKind} {m m' : Int} {c : Call} (ho : o.op = .call c) (hc : c.callee = .builtin .min) (hca : c.args.toList = [x, y])
  (hx : rep C (.int k m) (a.eval x)) (hy : rep C (.int k m') (a.eval y)) : zfd P C a o (.int k (min m m')) w := by
 have e1 : c.args = #[x, y] := by apply Array.ext'; simpa using hca
 simp only [rep] at hx hy
 refine ⟨.int k (min m m'), ?_, by simp only [rep]; refine ⟨trivial, ?_, ?_⟩ <;> omega⟩
 unfold execOp
 simp [ho, resolve, hc, e1, hx.1, hy.1, invoke, builtin, Builtin.min_, Builtin.min2]
 split <;> omega
theorem zjs {C : Cx} : ∀ (l l' : List D) (vs vs' : List Value), reps C l vs -> reps C l' vs' -> reps C (l ++ l') (vs ++ vs')
 | [], l', vs, vs', h, h' => by simp only [reps] at h; subst h; simpa using h'
 | d :: ds, l', vs, vs', h, h' => by
  simp only [reps] at h
  obtain ⟨v, vs1, rfl, hd, h⟩ := h
  simp only [zal, reps]
  exact ⟨v, _, rfl, hd, zjs ds l' vs1 vs' h h'⟩
theorem zo7 {C : Cx} : ∀ (l : List D) (vs : List Value), zf5 l vs = true -> reps C l vs := by
 intro l vs h
 fun_induction zf5 l vs with
 | case1 => simp only [reps]
 | case2 b ds b' vs ih =>
  simp only [za0, beq_iff_eq] at h
  simp only [reps, rep]
  exact ⟨_, _, rfl, by rw [h.1], ih h.2⟩
 | case3 k n ds k' n' vs ih =>
  simp only [za0, beq_iff_eq, decide_eq_true_eq] at h
  obtain ⟨⟨⟨⟨rfl, rfl⟩, h1⟩, h2⟩, h3⟩ := h
  simp only [reps, rep]
  exact ⟨_, _, rfl, ⟨rfl, h1, h2⟩, ih h3⟩
 | case4 ds s vs ih =>
  simp only [za0, beq_iff_eq] at h
  simp only [reps, rep]
  refine ⟨_, _, rfl, ⟨?_, by simp⟩, ih h.2⟩
  congr 1
  apply bytes_inj
  have : s.data.size = 0 := h.1
  simp [Array.size_eq_zero_iff.1 this]
 | case5 s ds vs ih =>
  simp only [reps, rep]
  exact ⟨_, _, rfl, ⟨none, 0, rfl, by simp⟩, ih h⟩
 | case6 ds vs ih => simp only [reps, rep]; exact ⟨_, _, rfl, rfl, ih h⟩
 | case7 ds vs ih => simp only [reps, rep]; exact ⟨_, _, rfl, rfl, ih h⟩
 | case8 ds vs ih => simp only [reps, rep]; exact ⟨_, _, rfl, rfl, ih h⟩
 | case9 ds vs ih => simp only [reps, rep]; exact ⟨_, _, rfl, rfl, ih h⟩
 | case10 => cases h
theorem zs2 : ∀ (l : List Value) (k off : Nat) (cs : Array Value), off + k + l.length <= cs.size ->
  ((l.zipIdx k).foldl (fun cs (c, j) => cs.setIfInBounds (off + j) c) cs).toList = cs.toList.take (off + k) ++ l ++ cs.toList.drop (off + k + l.length)
 | [], k, off, cs, _ => by simp
 | v :: l, k, off, cs, h => by
  simp only [za5] at h
  simp only [List.zipIdx_cons, List.foldl_cons]
  rw [zs2 l (k + 1) off _ (by simp; omega)]
  have hlt : off + k < cs.toList.length := by simp; omega
  simp only [Array.toList_setIfInBounds, za5]
  rw [List.take_set, List.drop_set_of_lt (by omega)]
  rw [show off + (k + 1) = off + k + 1 by omega, List.take_succ_eq_append_getElem hlt]
  rw [List.set_append_right _ _ (by simp; omega)]
  have : off + k - (cs.toList.take (off + k)).length = 0 := by simp; omega
  rw [this]
  simp [Nat.add_comm 1 l.length, Nat.add_assoc]
theorem zkv {C : Cx} {d : D} {v : Value} (h : rep C d v) (hl : d.cells.length = v.cells.size) : reps C d.cells v.cells.toList := by
 cases d with
 | agg l =>
  simp only [rep] at h
  obtain ⟨cs, rfl, h⟩ := h
  simpa [D.cells, Value.cells] using h
 | tuple l => simp only [D.cells, zac] at hl; simp only [D.cells, reps]; exact zad (by simpa using hl.symm)
 | undef => simp only [D.cells, zac] at hl; simp only [D.cells, reps]; exact zad (by simpa using hl.symm)
 | «when» c d => simp only [D.cells, zac] at hl; simp only [D.cells, reps]; exact zad (by simpa using hl.symm)
 | _ =>
  have hv : v.cells = #[v] := by
   simp only [rep] at h
   first
    | (subst h; rfl)
    | (obtain ⟨_, rfl, _⟩ := h; exact zmi _ _)
    | (obtain ⟨_, rfl, _⟩ := h; rw [zmi]; rfl)
    | (obtain ⟨rfl, _⟩ := h; rfl)
    | (obtain ⟨_, _, rfl, _⟩ := h; rfl)
    | (obtain ⟨_, _, _, rfl, _⟩ := h; rfl)
    | (obtain ⟨_, _, _, _, _, rfl⟩ := h; rfl)
    | (obtain ⟨_, _, _, _, rfl⟩ := h; rfl)
    | (obtain ⟨_, rfl, _⟩ := h; rfl)
    | (cases v <;> first | rfl | cases h)
  rw [hv]
  simp only [D.cells, reps]
  exact ⟨v, [], rfl, h, rfl⟩
theorem zhd {C : Cx} {d : D} {v : Value} (h : rep C d v) (hd : d.cells ≠ []) : v.cells.size = d.cells.length := by
 cases d with
 | agg l =>
  simp only [rep] at h
  obtain ⟨cs, rfl, h⟩ := h
  simpa [D.cells, Value.cells] using zdc _ _ h
 | tuple l => exact absurd rfl hd
 | undef => exact absurd rfl hd
 | «when» c d => exact absurd rfl hd
 | _ =>
  simp only [rep] at h
  first
   | (subst h; rfl)
   | (obtain ⟨_, rfl, _⟩ := h; exact zmi _ _)
   | (obtain ⟨_, rfl, _⟩ := h; rw [zmi]; rfl)
   | (obtain ⟨rfl, _⟩ := h; rfl)
   | (obtain ⟨_, _, rfl, _⟩ := h; rfl)
   | (obtain ⟨_, _, _, rfl, _⟩ := h; rfl)
   | (obtain ⟨_, _, _, _, _, rfl⟩ := h; rfl)
   | (obtain ⟨_, _, _, _, rfl⟩ := h; rfl)
   | (obtain ⟨_, rfl, _⟩ := h; rfl)
   | (cases v <;> first | rfl | cases h)
theorem znk {C : Cx} {l new : List D} {vs vnew : List Value} {off : Nat} (h : reps C l vs) (hn : reps C new vnew) : reps C (zo2 l off new) (vs.take off ++ vnew ++ vs.drop (off + vnew.length)) := by
 unfold zo2
 rw [zdc _ _ hn]
 exact zjs _ _ _ _ (zjs _ _ _ _ (zr8 _ _ _ h) hn) (zr9 _ _ _ h)
theorem ztz {C : Cx} {offs : List (Nat × Nat × Bool)} {place : Nat -> Option (Nat × Nat)} (hpl : ∀ i o n b, offs[i]? = some (o, n, b) -> place i = some (o, n) /\ n ≠ 0) :
  ∀ (parts : List (Nat × D)) (vparts : List (Nat × Value)) (cells c : List D) (cv : Array Value) (p : Bool),
   parts.map (·.1) = vparts.map (·.1) -> reps C (parts.map (·.2)) (vparts.map (·.2)) -> reps C cells cv.toList -> zs6 offs cells parts = some (c, p) -> p ->
   ∃ cv', Instr.fill place cv vparts = some cv' /\ reps C c cv'.toList
 | [], vparts, cells, c, cv, p, hm, hr, hc, h, hp => by
  cases vparts with
  | nil => simp only [zs6, za3, za6] at h; obtain ⟨rfl, _⟩ := h; exact ⟨cv, rfl, hc⟩
  | cons x xs => simp at hm
 | (i, d) :: r, vparts, cells, c, cv, p, hm, hr, hc, h, hp => by
  cases vparts with
  | nil => simp at hm
  | cons x xs =>
   obtain ⟨i', v⟩ := x
   simp only [zah, List.cons.injEq] at hm
   obtain ⟨rfl, hm⟩ := hm
   simp only [zah, reps] at hr
   obtain ⟨v', vs', he, hd, hr⟩ := hr
   obtain ⟨rfl, rfl⟩ := List.cons.inj he
   simp only [zs6] at h
   split at h
   rename_i o n b ho
   split at h
   rename_i c' p' hf
   simp only [za3, za6] at h
   obtain ⟨rfl, rfl⟩ := h
   simp only [za0] at hp
   obtain ⟨⟨h1, h2⟩, h3⟩ := hp
   have h1 := nb h1
   have h2 := lb h2
   obtain ⟨hpl1, hn0⟩ := hpl i o n b ho
   have hne : d.cells ≠ [] := fun e => by rw [e] at h1; simp at h1; omega
   have hvs := zhd hd hne
   have hcl := zdc _ _ hc
   have hcl' : cv.size = cells.length := by simpa using hcl
   have hfold := zs2 v.cells.toList 0 o cv (by simp; omega)
   have hz : v.cells.zipIdx = (v.cells.toList.zipIdx 0).toArray := by apply Array.ext'; simp
   simp only [Instr.fill, hpl1]
   rw [if_neg (by simp; omega)]
   refine ztz hpl r xs _ _ _ p' hm hr ?_ hf h3
   have e : (Array.foldl (fun cs x => match x with | (c, j) => cs.setIfInBounds (o + j) c) cv v.cells.zipIdx).toList = cv.toList.take (o + 0) ++ v.cells.toList ++ cv.toList.drop (o + 0 + v.cells.toList.length) := by
    rw [<- hfold, hz]
    simp
   rw [e]
   exact znk hc (zkv hd hvs.symm)
   cases h
   cases h
theorem ztd {rd : Nat -> D} (hr : ∀ t, rep C (rd t) (a.eval (.tmp t))) : ∀ (l : List (Nat × Operand)) (ds : List (Nat × D)) (p : Bool), zoc true rd l = (ds, p) -> p -> (l.map (·.2)).all zcz = true ->
  reps C (ds.map (·.2)) (l.map fun x => a.eval x.2) /\ ds.map (·.1) = l.map (·.1)
 | [], ds, p, h, _, _ => by simp only [zoc] at h; cases h; simp only [reps, List.map_nil]; exact ⟨trivial, trivial⟩
 | (i, x) :: r, ds, p, h, hp, hk => by
  simp only [zoc] at h
  cases h1 : opd true rd x with
  | mk d p1 =>
   cases h2 : zoc true rd r with
   | mk ds' p2 =>
    rw [h1, h2] at h
    cases h
    simp only [zah, List.all_cons, za0] at hk
    have hp := (za0 _ _).mp hp
    obtain ⟨g1, g2⟩ := ztd hr r ds' p2 h2 hp.2 hk.2
    simp only [reps, zah, g2]
    exact ⟨⟨_, _, rfl, zjt hr hk.1 h1 hp.1 rfl, g1⟩, trivial⟩
theorem ya52 {o : Oper} {t : TypeId} {ti : TI} {ps : Array (Nat × Operand)} {ds : List (Nat × D)} {c : List D} {q : Bool} (ho : o.op = .build t ps) (ht : zd0 P t ti = true) (hk : ti.kind = 2)
  (hr : reps C (ds.map (·.2)) (ps.toList.map fun x => a.eval x.2)) (hm : ds.map (·.1) = ps.toList.map (·.1)) (h : zs6 ti.offs ti.zero ds = some (c, q)) (hq : q = true) : zfd P C a o (.agg c) w := by
 obtain ⟨i, d, hi, hd, hs, ⟨z, hz, hzc⟩, _⟩ := zci ht
 obtain ⟨i', fs, hi', hu, hsz, hoffs, hall⟩ := zqx ht hk
 have hzr : reps C ti.zero z.cells.toList := zo7 _ _ hzc
 have hsz : ∀ f ∈ fs.toList, (sizeOf f.type).run P w = .ok (P.cellsOf f.type) w := by
  intro f hf
  obtain ⟨j, hj⟩ := Option.isSome_iff_exists.1 (hall f hf).1
  simp [sizeOf, typeInfo, hj, Program.cellsOf]
 have hplaces : (fs.mapM fun f => do pure (f.offset, <- sizeOf f.type) : Sem (Array (Nat × Nat))).run P w = .ok (fs.map fun f => (f.offset, P.cellsOf f.type)) w := by
  have key : ∀ (l : List Field), (∀ f ∈ l, (sizeOf f.type).run P w = .ok (P.cellsOf f.type) w) -> (l.mapM (fun f => Prod.mk f.offset <$> sizeOf f.type) : Sem (List (Nat × Nat))).run P w = .ok (l.map fun f => (f.offset, P.cellsOf f.type)) w := by
   intro l
   induction l with
   | nil => intro _; simp
   | cons f l ih =>
    intro h
    simp [List.mapM_cons, h f (by simp), ih fun g hg => h g (by simp [hg])]
  have := key fs.toList hsz
  rw [Array.mapM_eq_mapM_toList]
  simp only [bind_pure_comp, Sem.run_map, this, Result.andThen_ok]
  congr 1
  apply Array.ext'; simp
 have hvp : (ps.map fun (i, x) => (i, a.eval x)).toList.map (·.1) = ps.toList.map (·.1) := by simp
 have hvp2 : (ps.map fun (i, x) => (i, a.eval x)).toList.map (·.2) = ps.toList.map fun x => a.eval x.2 := by simp
 obtain ⟨cv, hf, hc⟩ := ztz (C := C) (offs := ti.offs) (place := fun i => (fs.map fun f => (f.offset, P.cellsOf f.type))[i]?) (by
  intro i o n b h
  rw [hoffs] at h
  simp only [List.getElem?_map, Option.map_eq_some_iff, za6] at h
  obtain ⟨fd, hfd, rfl, rfl, rfl⟩ := h
  have hfd' : fs[i]? = some fd := by simpa using hfd
  exact ⟨by simp [hfd'], (hall fd (List.mem_of_getElem? hfd)).2.2⟩) ds (ps.map fun (i, x) => (i, a.eval x)).toList ti.zero c z.cells q (by rw [hm, hvp]) (by rw [hvp2]; exact hr) hzr h hq
 refine ⟨.agg cv, ?_, by simp only [rep]; exact ⟨cv.toList, rfl, hc⟩⟩
 unfold execOp
 simp only [ho, Instr.build, zeroValue, typeInfo, hi, hz, Sem.run_bind, run_program, Result.andThen_ok, Sem.run_pure, run_underlying hu, hplaces, hf]
theorem ya34 {o : Oper} {t : TypeId} {ti : TI} {ps : Array (Nat × Operand)} {ds : List (Nat × D)} {c : List D} {q : Bool} (ho : o.op = .build t ps) (ht : zd0 P t ti = true) (hk : ti.kind = 4)
  (hr : reps C (ds.map (·.2)) (ps.toList.map fun x => a.eval x.2)) (hm : ds.map (·.1) = ps.toList.map (·.1)) (h : zs6 ti.offs ti.zero ds = some (c, q)) (hq : q = true) : zfd P C a o (.agg c) w := by
 obtain ⟨i, d, hi, hd, hs, ⟨z, hz, hzc⟩, _⟩ := zci ht
 obtain ⟨n, e, j, hu, hj, hj1, hsz, hoffs⟩ := zxx ht hk
 have hzr : reps C ti.zero z.cells.toList := zo7 _ _ hzc
 have hvp : (ps.map fun (i, x) => (i, a.eval x)).toList.map (·.1) = ps.toList.map (·.1) := by simp
 have hvp2 : (ps.map fun (i, x) => (i, a.eval x)).toList.map (·.2) = ps.toList.map fun x => a.eval x.2 := by simp
 obtain ⟨cv, hf, hc⟩ := ztz (C := C) (offs := ti.offs) (place := fun i => some (i * 1, 1)) (by
  intro i o n b h
  rw [hoffs] at h
  simp only [List.getElem?_map, Option.map_eq_some_iff, za6] at h
  obtain ⟨fd, hfd, rfl, rfl, rfl⟩ := h
  obtain ⟨h1, h2⟩ := List.getElem?_eq_some_iff.1 hfd
  simp only [List.getElem_range] at h2
  subst h2
  exact ⟨by simp, by simp⟩) ds (ps.map fun (i, x) => (i, a.eval x)).toList ti.zero c z.cells q (by rw [hm, hvp]) (by rw [hvp2]; exact hr) hzr h hq
 refine ⟨.agg cv, ?_, by simp only [rep]; exact ⟨cv.toList, rfl, hc⟩⟩
 have hsz1 : (sizeOf e).run P w = .ok 1 w := by simp [sizeOf, typeInfo, hj, hj1]
 unfold execOp
 simp only [ho, Instr.build, zeroValue, typeInfo, hi, hz, Sem.run_bind, run_program, Result.andThen_ok, Sem.run_pure, run_underlying hu, hsz1, hf]
theorem ya7e {o : Oper} {t : TypeId} {ti : TI} {x : Operand} {d : D} {n : Nat} {c : Call} (ho : o.op = .call c) (hc : c.callee = .builtin .cap) (hca : c.args.toList = [x]) (hct : c.argTypes.toList = [t]) (ht : zd0 P t ti = true) (hk : ti.kind = 3)
  (hx : rep C d (a.eval x)) (hd : (∃ s l k, d = .imm s l k /\ n = l.length /\ (k % 8 <= 1 \/ k % 8 = 3)) \/ ∃ id s off len, d = .ref id s off len (some n) /\ capK n = true) :
  zfd P C a o (.int .i64 n) w := by
 have e1 : c.args = #[x] := by apply Array.ext'; simpa using hca
 have e2 : c.argTypes = #[t] := by apply Array.ext'; simpa using hct
 obtain ⟨e, ji, hu, hj, _⟩ := zcj ht hk
 have run : ∀ ad len, a.eval x = .slice ad len n -> ((n : Int) <= 9223372036854775807) -> zfd P C a o (.int .i64 n) w := by
  intro ad len hv hn
  refine ⟨.int .i64 n, ?_, ?_⟩
  unfold execOp; simp [ho, resolve, hc, e1, e2, hv, invoke, builtin, Builtin.cap_, run_underlying hu, goInt]
  simp only [rep]
  refine ⟨trivial, ?_, ?_⟩ <;> simp [IntKind.min, IntKind.max, IntKind.signed, IntKind.bits] <;> omega
 rcases hd with ⟨s, l, k, rfl, rfl, hk⟩ | ⟨id, s, off, len, rfl, hkn⟩
 simp only [rep] at hx
 obtain ⟨ad, cap, hx, g1, g2, g3, g4, g5, _⟩ := hx
 have := g5 hk
 subst this
 exact run _ _ hx g2
 simp only [rep] at hx
 obtain ⟨_, ad, cap, hx, g1, g2, g3, g4, _⟩ := hx
 have := g4.1 _ rfl hkn
 subst this
 exact run _ _ hx g2
theorem zzm {o : Oper} {t t' : TypeId} {ti ti' : TI} {x : Operand} {l : List UInt8} (ho : o.op = .convert t' t x) (ht : zd0 P t ti = true) (ht' : zd0 P t' ti' = true) (hk : ti.kind = 5)
  (hx : rep C (.str l) (a.eval x)) : zfd P C a o (.str l) w := by
 have hu := zij ht hk
 obtain ⟨i', d', hi', hd', _⟩ := zci ht'
 have hx' := hx
 simp only [rep] at hx'
 obtain ⟨hx', _⟩ := hx'
 rw [hx'] at hx
 refine ⟨.string ⟨l.toArray⟩, ?_, hx⟩
 unfold execOp
 cases d' <;> simp [ho, hx', convert, run_underlying hu, run_underlying hd']
theorem zms {ti : TI} {z : Value} (hzc : zf5 ti.ezero z.cells.toList = true) (hsz : zoh z = ti.eagg) : rep C (zdp ti) z := by
 have := zo7 (C := C) _ _ hzc
 unfold zdp
 cases he : ti.eagg
 rw [he] at hsz
 have hc : z.cells = #[z] := by cases z <;> first | rfl | simp [zoh] at hsz
 rw [hc] at this
 simp only [cond_false]
 cases hl : ti.ezero with
 | nil => rw [hl] at this; simp [reps] at this
 | cons d ds =>
  rw [hl] at this
  simp only [reps] at this
  obtain ⟨u, us, h1, h2, _⟩ := this
  simp only [List.cons.injEq] at h1
  rw [h1.1]; exact h2
 rw [he] at hsz
 simp only [cond_true, rep]
 cases z <;> simp [zoh] at hsz
 exact ⟨_, by simp [Value.cells], this⟩
end
end Go.Tm
namespace Go.Tm
open Go.RowKit Go.WideShapes
theorem zph {C C' : Cx} (h : C.Le C') (hC : C.rf = true) (b b' : Bool) (hb : b = true -> b' = true) : ({ C with rf := b } : Cx).Le { C' with rf := b' } :=
 ⟨h.blk, h.shp, h.ff, hb, fun _ => h.sg hC⟩
theorem zku {C C' : Cx} (h : C.Le C') : ∀ (es : List (D × D)) (ens : List MapEntry), zeh C es ens -> zeh C' es ens
 | [], ens, hh => by simpa only [zeh] using hh
 | x :: xs, ens, hh => by
  simp only [zeh] at hh ⊢
  obtain ⟨e, es', rfl, ⟨h1, h2⟩, h3⟩ := hh
  exact ⟨e, es', rfl, ⟨zew h _ _ h1, zew h _ _ h2⟩, zku h xs es' h3⟩
mutual
theorem zm4 {C : Cx} : ∀ (d : D) (v : Value), d.ids = [] -> rep C d v -> rep C.noref d v
 | .bool b, v, _, h => by simpa only [rep] using h
 | .int k n, v, _, h => by simpa only [rep] using h
 | .str l, v, _, h => by simpa only [rep] using h
 | .agg l, v, hi, h => by
  simp only [rep] at h ⊢
  obtain ⟨cs, rfl, h⟩ := h
  exact ⟨cs, rfl, zjh l cs (by simpa only [D.ids] using hi) h⟩
 | .imm s l c, v, _, h => by simp only [rep] at h ⊢; exact h
 | .ref id s off len oc, v, hi, _ => by simp [D.ids] at hi
 | .ptr id off, v, hi, _ => by simp [D.ids] at hi
 | .eptr id s i off, v, hi, _ => by simp [D.ids] at hi
 | .iptr m l, v, _, h => by simp only [rep] at h ⊢; exact h
 | .nilptr, v, _, h => by simpa only [rep] using h
 | .tuple l, v, hi, h => by
  simp only [rep] at h ⊢
  obtain ⟨cs, rfl, h⟩ := h
  exact ⟨cs, rfl, zjh l cs (by simpa only [D.ids] using hi) h⟩
 | .fn f l, v, hi, h => by
  simp only [rep] at h ⊢
  obtain ⟨cs, rfl, h⟩ := h
  exact ⟨cs, rfl, zjh l cs (by simpa only [D.ids] using hi) h⟩
 | .nilfn, v, _, h => by simpa only [rep] using h
 | .iface t d, v, hi, h => by
  simp only [rep] at h ⊢
  obtain ⟨x, rfl, h⟩ := h
  exact ⟨x, rfl, zm4 d x (by simpa only [D.ids] using hi) h⟩
 | .nilIface, v, _, h => by simpa only [rep] using h
 | .mref id, v, hi, _ => by simp [D.ids] at hi
 | .nilmap, v, _, h => by simpa only [rep] using h
 | .sc, v, _, h => by simpa only [rep] using h
 | .when c d, v, hi, h => by
  simp only [rep] at h ⊢
  exact ⟨fun hc => zm4 d v (by simpa only [D.ids] using hi) (h.1 hc), h.2⟩
 | .undef, v, _, _ => by simp only [rep]
theorem zjh {C : Cx} : ∀ (l : List D) (vs : List Value), D.idsL l = [] -> reps C l vs -> reps C.noref l vs
 | [], vs, _, h => by simpa only [reps] using h
 | d :: ds, vs, hi, h => by
  simp only [reps] at h ⊢
  simp only [D.idsL, List.append_eq_nil_iff] at hi
  obtain ⟨v, vs', rfl, h1, h2⟩ := h
  exact ⟨v, vs', rfl, zm4 d v hi.1 h1, zjh ds vs' hi.2 h2⟩
end
theorem zlh {C C' : Cx} {id : Nat} {blk : Blk} (hle : C.Le C') (hC : C.rf = true) (hσ : C'.σ id = C.σ id)
  (hb : ∀ b o, C.σ id = some (b, o) -> C'.w.heap[b]? = C.w.heap[b]?) (h : holds C id blk) : holds C' id blk := by
 cases blk with
 | box cells =>
  obtain ⟨b, cs, T, h1, h2, h3, h4⟩ := h
  exact ⟨b, cs, T, by rw [hσ, h1], by rw [hb b 0 h1, h2], zgv hle _ _ h3, h4⟩
 | arr e s p items =>
  rcases h with ⟨h1, h2⟩ | ⟨b, cs, h1, h2, h3, h4⟩
  exact .inl ⟨h1, by rw [hσ, h2]⟩
  exact .inr ⟨b, cs, by rw [hσ, h1], by rw [hb b 0 h1, h2], h3, zfe (zph hle hC _ _ (fun x => x)) _ _ _ _ (hb b 0 h1) h4⟩
 | map es =>
  obtain ⟨b, ens, clock, h1, h2, h3⟩ := h
  exact ⟨b, ens, clock, by rw [hσ, h1], by rw [hb b 0 h1, h2], zku hle _ _ h3⟩
section
variable {fr : Nat} {w w' : World} {g g' : Gh} {hp hp' : Nat -> Option Blk} {nu nu' : Nat -> Bool}
def zsv (g : Gh) (hp : Nat -> Option Blk) (ch : Nat -> Prop) (b : Nat) : Prop := ∃ id o, ch id /\ hp id ≠ none /\ g.σ id = some (b, o)
theorem Mem.le {ch : Nat -> Prop} (hK : Keep (zsv g hp ch) w w') (hz : g'.Z = g.Z) (hzn : g'.zn = g.zn) (hs : ∀ id, g.σ id ≠ none -> g'.σ id = g.σ id)
  (hown : ∀ b, ownB g' hp' b -> w.heap.size <= b \/ ownB g hp b) : Cx.Le (cx w g hp) (cx w' g' hp') := by
 refine ⟨fun m _ Z' hZ' => ⟨Z', ?_, fun b hM hZ hb => ⟨?_, hZ, ?_⟩⟩, fun b hb => hK.shp b hb, id, id, fun _ => hs⟩
 simp only [Cx.zone, cx, hz, hzn] at hZ' ⊢
 exact hZ'
 intro hM'
 rcases hown b hM' with h | h
 have hb : b < w.heap.size := hb
 omega
 exact hM h
 refine .of_eq (hK.block b hb ?_) hb
 rintro ⟨id, o, _, h1, h2⟩
 exact hM ⟨id, o, h1, h2⟩
theorem Mem.flK (h : Mem fr w g hp nu) {ch : Nat -> Prop} (hK : Keep (zsv g hp ch) w w') : Fl fr w' :=
 h.fl.of hK.size fun h0 h1 => hK.block 0 h1 (by
  rintro ⟨id, o, _, h2, h3⟩
  have := (h.zs.zo 0 ⟨id, o, h2, h3⟩).1
  omega)
theorem Mem.change (h : Mem fr w g hp nu) {ch : Nat -> Prop} (hK : Keep (zsv g hp ch) w w') (hz : g'.Z = g.Z) (hzn : g'.zn = g.zn) (hs : ∀ id, g.σ id ≠ none \/ hp id ≠ none /\ ¬ ch id -> g'.σ id = g.σ id)
  (hown : ∀ b, ownB g' hp' b -> w.heap.size <= b \/ ownB g hp b)
  (hhd : ∀ id blk, hp' id = some blk -> (¬ ch id /\ hp id = some blk) \/ holds (cx w' g' hp') id blk)
  (hinj : ∀ id id' b o o', hp' id ≠ none -> hp' id' ≠ none -> g'.σ id = some (b, o) -> g'.σ id' = some (b, o') -> id = id')
  (hnw : ∀ id, nu' id = true -> g'.σ id = none /\ hp' id = none) : Mem fr w' g' hp' nu' := by
 have hle : Cx.Le (cx w g hp) (cx w' g' hp') := Mem.le hK hz hzn (fun id h => hs id (.inl h)) hown
 refine ⟨fun id blk hb => ?_, hinj, hnw, ?_, h.flK hK⟩
 rcases hhd id blk hb with ⟨h1, h2⟩ | h3
 refine zlh (C := cx w g hp) (C' := cx w' g' hp') hle rfl (hs id (.inr ⟨by rw [h2]; simp, h1⟩)) ?_ (h.hd id blk h2)
 intro b o hσ
 refine hK.block b (zuf (C := cx w g hp) (h.hd id blk h2) hσ).1 ?_
 rintro ⟨id2, o2, g1, g2, g3⟩
 have := h.inj id id2 b o o2 (by rw [h2]; simp) g2 hσ g3
 subst this
 exact h1 g1
 exact h3
 refine ⟨fun b hb => ?_, ?_, ?_, ?_, fun b hM => ?_⟩
 rw [hz]; exact h.zs.z0 b (zar hK.size hb)
 obtain ⟨Z1, h1, h2, h3⟩ := h.zs.z1
 rw [hz, hzn]
 exact ⟨Z1, h1, h2, fun b hb => h3 b (zar hK.size hb)⟩
 rw [hz, hzn]; exact h.zs.z2
 rw [hz, hzn]
 intro m Zm hm hZ b hb
 obtain ⟨h1, h2, h3, h4, h5⟩ := h.zs.zr m Zm hm hZ b hb
 refine ⟨Nat.lt_of_lt_of_le h1 hK.size, h2, h3, ?_, h5⟩
 intro hM
 rcases hown b hM with h | h
 omega
 exact h4 h
 rcases hown b hM with h1 | h1
 obtain ⟨Z1, k1, k2, k3⟩ := h.zs.z1
 rw [hz, hzn]
 exact ⟨zar h.fl.le h1, h.zs.z0 b h1, Z1, k1, k3 b h1⟩
 rw [hz, hzn]; exact h.zs.zo b h1
end
def setσ (g : Gh) (n : Nat) (x : Option (Nat × Nat)) : Gh := { g with σ := fun i => if i = n then x else g.σ i }
def kill : Option Nat -> List (Nat × Option Blk)
 | none => []
 | some k => [(k, none)]
theorem zdi {a b : Nat} (h : a ≠ b) : Nat.beq a b = false := by
 cases hb : Nat.beq a b
 rfl
 exact absurd (nb hb) h
theorem zz0 (nu : Nat -> Bool) (n id : Nat) : effN nu (n, n + 1) id = true ↔ nu id = true /\ id ≠ n := by
 unfold effN
 simp
 intro _
 omega
theorem zs9 (nu : Nat -> Bool) : effN nu (0, 0) = nu := by
 funext id
 unfold effN
 simp
theorem zqq (hp : Nat -> Option Blk) : effH hp [] = hp := by
 funext id; simp [effH, getL]
theorem zlj (F : FrS) : F.eff [] (0, 0) = F := by
 unfold FrS.eff
 rw [zqq, zs9]
section
variable {E : En} {n : Nat} {F : FrS} {a : Act} {w w' : World} {g g' : Gh} (hR : Rel E n F a w g)
include hR
theorem Rel.change {hp' : Nat -> Option Blk} {nu' : Nat -> Bool} {ch : Nat -> Prop} (hK : Keep (zsv g F.hp ch) w w') (hz : g'.Z = g.Z) (hzn : g'.zn = g.zn) (hs : ∀ id, g.σ id ≠ none \/ F.hp id ≠ none /\ ¬ ch id -> g'.σ id = g.σ id)
  (hown : ∀ b, ownB g' hp' b -> w.heap.size <= b \/ ownB g F.hp b)
  (hhd : ∀ id blk, hp' id = some blk -> (¬ ch id /\ F.hp id = some blk) \/ holds (cx w' g' hp') id blk)
  (hinj : ∀ id id' b o o', hp' id ≠ none -> hp' id' ≠ none -> g'.σ id = some (b, o) -> g'.σ id' = some (b, o') -> id = id')
  (hnw : ∀ id, nu' id = true -> g'.σ id = none /\ hp' id = none) (hs2 : ∀ id, F.nu id = false -> g'.σ id = g.σ id) (hn2 : ∀ id, nu' id = true -> F.nu id = true) : Rel E n ⟨F.rd, hp', nu'⟩ a w' g' := by
 have hle : Cx.Le (cx w g F.hp) (cx w' g' hp') := Mem.le hK hz hzn (fun id h => hs id (.inl h)) hown
 refine ⟨hR.sz, hR.df, fun t => zew hle _ _ (hR.rd t), hR.mem.change hK hz hzn hs hown hhd hinj hnw, ?_, ?_, ⟨hz.trans hR.gz.1, hzn.trans hR.gz.2⟩, ?_, fun id h => hR.nu id (hn2 id h)⟩
 intro id b o h1 h2
 rcases hown b ⟨id, o, h1, h2⟩ with h | ⟨id', o', h3, h4⟩
 exact .inl (zar hR.keep.size h)
 exact hR.base id' b o' h3 h4
 refine hR.keep.trans (hK.mono ?_)
 rintro b hb ⟨id, o, _, h1, h2⟩
 rcases hR.base id b o h1 h2 with h | h
 exact .inr h
 exact .inl h
 intro id h
 rw [hs2 id, hR.gs id h]
 cases hb : F.nu id
 rfl
 rw [hR.nu id hb] at h; cases h
theorem Rel.made {m : Nat} {blk : Blk} {loc : Option (Nat × Nat)} {kl : Option Nat} (hn : F.nu m = true) (hK : Keep (zsv g F.hp fun k => kl = some k) w w')
  (hloc : ∀ b o, loc = some (b, o) -> w.heap.size <= b \/ zsv g F.hp (fun k => kl = some k) b)
  (hblk : ∀ C, C = cx w' (setσ g m loc) (effH F.hp ((m, some blk) :: kill kl)) -> Cx.Le (cx w g F.hp) C -> C.rf = true -> C.σ m = loc -> holds C m blk) :
  Rel E n (F.eff ((m, some blk) :: kill kl) (m, m + 1)) a w' (setσ g m loc) /\ Cx.Le (cx w g F.hp) (cx w' (setσ g m loc) (effH F.hp ((m, some blk) :: kill kl))) := by
 obtain ⟨n1, n2⟩ := hR.mem.nw m hn
 have hp0 : effH F.hp ((m, some blk) :: kill kl) m = some blk := by simp [effH, getL]
 have hp1 : ∀ id, id ≠ m -> effH F.hp ((m, some blk) :: kill kl) id ≠ none -> F.hp id ≠ none /\ kl ≠ some id /\ effH F.hp ((m, some blk) :: kill kl) id = F.hp id := by
  intro id hid h
  have hb : Nat.beq m id = false := zdi (fun e => hid e.symm)
  cases kl with
  | none => simp [effH, getL, hb, kill] at h ⊢; exact h
  | some k =>
   by_cases e : k = id
   subst e; simp [effH, getL, hb, kill] at h
   have hb' : Nat.beq k id = false := zdi e
   simp [effH, getL, hb, hb', kill] at h ⊢
   exact ⟨h, e⟩
 have hσ : ∀ id, id ≠ m -> (setσ g m loc).σ id = g.σ id := by
  intro id hid
  simp [setσ, hid]
 have hσ0 : (setσ g m loc).σ m = loc := by simp [setσ]
 have hown : ∀ b, ownB (setσ g m loc) (effH F.hp ((m, some blk) :: kill kl)) b -> w.heap.size <= b \/ ownB g F.hp b := by
  rintro b ⟨id, o, h1, h2⟩
  by_cases e : id = m
  subst e
  rw [hσ0] at h2
  rcases hloc b o h2 with h | ⟨k, o', _, h3, h4⟩
  exact .inl h
  exact .inr ⟨k, o', h3, h4⟩
  rw [hσ id e] at h2
  exact .inr ⟨id, o, (hp1 id e h1).1, h2⟩
 have hs : ∀ id, g.σ id ≠ none \/ F.hp id ≠ none /\ ¬ kl = some id -> (setσ g m loc).σ id = g.σ id := by
  intro id h
  refine hσ id ?_
  rintro rfl
  rcases h with h | h
  exact h n1
  exact h.1 n2
 have hle : Cx.Le (cx w g F.hp) (cx w' (setσ g m loc) (effH F.hp ((m, some blk) :: kill kl))) := Mem.le (g' := setσ g m loc) hK rfl rfl (fun id h => hs id (.inl h)) hown
 have hlt : ∀ id b o, F.hp id ≠ none -> g.σ id = some (b, o) -> b < w.heap.size := fun id b o h1 h2 => hR.mem.own_lt ⟨id, o, h1, h2⟩
 refine ⟨Rel.change hR (ch := fun k => kl = some k) hK rfl rfl hs hown ?_ ?_ ?_ (fun id h => hσ id (by rintro rfl; rw [hn] at h; cases h)) (fun id h => ((zz0 _ _ _).1 h).1), hle⟩
 intro id blk' hb
 by_cases e : id = m
 subst e
 rw [hp0] at hb
 cases hb
 exact .inr (hblk _ rfl hle rfl hσ0)
 obtain ⟨h1, h2, h3⟩ := hp1 id e (by rw [hb]; simp)
 rw [h3] at hb
 exact .inl ⟨h2, hb⟩
 intro id id' b o o' h1 h2 h3 h4
 by_cases e : id = m
 by_cases e' : id' = m
 rw [e, e']
 exfalso
 subst e
 rw [hσ0] at h3
 rw [hσ id' e'] at h4
 obtain ⟨g1, g2, _⟩ := hp1 id' e' h2
 have := hlt id' b o' g1 h4
 rcases hloc b o h3 with h | ⟨k, o2, hk, h5, h6⟩
 omega
 have := hR.mem.inj id' k b o' o2 g1 h5 h4 h6
 subst this
 exact g2 hk
 by_cases e' : id' = m
 exfalso
 subst e'
 rw [hσ0] at h4
 rw [hσ id e] at h3
 obtain ⟨g1, g2, _⟩ := hp1 id e h1
 have := hlt id b o g1 h3
 rcases hloc b o' h4 with h | ⟨k, o2, hk, h5, h6⟩
 omega
 have := hR.mem.inj id k b o o2 g1 h5 h3 h6
 subst this
 exact g2 hk
 rw [hσ id e] at h3
 rw [hσ id' e'] at h4
 exact hR.mem.inj id id' b o o' (hp1 id e h1).1 (hp1 id' e' h2).1 h3 h4
 intro id h
 obtain ⟨h1, h2⟩ := (zz0 _ _ _).1 h
 obtain ⟨h3, h4⟩ := hR.mem.nw id h1
 refine ⟨by rw [hσ id h2]; exact h3, ?_⟩
 by_cases hh : effH F.hp ((m, some blk) :: kill kl) id = none
 exact hh
 exact absurd h4 (hp1 id h2 hh).1
theorem Rel.wrote {id : Nat} {blk : Blk} {b o : Nat} (hl : F.hp id ≠ none) (hs : g.σ id = some (b, o)) (hK : Keep (fun k => k = b) w w')
  (hblk : ∀ C, C = cx w' g (effH F.hp [(id, some blk)]) -> Cx.Le (cx w g F.hp) C -> C.rf = true -> C.σ id = some (b, o) -> holds C id blk) : Rel E n (F.eff [(id, some blk)] (0, 0)) a w' g := by
 have hp0 : effH F.hp [(id, some blk)] id = some blk := by simp [effH, getL]
 have hp1 : ∀ x, x ≠ id -> effH F.hp [(id, some blk)] x = F.hp x := by
  intro x hx
  have hb : Nat.beq id x = false := zdi (fun e => hx e.symm)
  simp [effH, getL, hb]
 have hne : ∀ x, effH F.hp [(id, some blk)] x ≠ none -> F.hp x ≠ none := by
  intro x h
  by_cases e : x = id
  subst e; exact hl
  rwa [hp1 x e] at h
 have hK' : Keep (zsv g F.hp fun k => k = id) w w' := hK.mono fun k _ e => by subst e; exact ⟨id, o, rfl, hl, hs⟩
 have hown : ∀ b, ownB g (effH F.hp [(id, some blk)]) b -> w.heap.size <= b \/ ownB g F.hp b := by
  rintro b ⟨x, o', h1, h2⟩
  exact .inr ⟨x, o', hne x h1, h2⟩
 have hle : Cx.Le (cx w g F.hp) (cx w' g (effH F.hp [(id, some blk)])) := Mem.le (g' := g) hK' rfl rfl (fun _ _ => rfl) hown
 have : F.eff [(id, some blk)] (0, 0) = ⟨F.rd, effH F.hp [(id, some blk)], F.nu⟩ := by unfold FrS.eff; rw [zs9]
 rw [this]
 refine Rel.change hR (ch := fun k => k = id) hK' rfl rfl (fun _ _ => rfl) hown ?_ ?_ ?_ (fun _ _ => rfl) (fun _ h => h)
 intro x blk' hb
 by_cases e : x = id
 subst e
 rw [hp0] at hb
 cases hb
 exact .inr (hblk _ rfl hle rfl hs)
 rw [hp1 x e] at hb
 exact .inl ⟨e, hb⟩
 intro x y b o o' h1 h2 h3 h4
 exact hR.mem.inj x y b o o' (hne x h1) (hne y h2) h3 h4
 intro x h
 obtain ⟨h1, h2⟩ := hR.mem.nw x h
 refine ⟨h1, ?_⟩
 by_cases e : x = id
 subst e; exact absurd h2 hl
 rw [hp1 x e]; exact h2
theorem Rel.ext (hK : Keep (fun _ => False) w w') : Rel E n F a w' g := by
 have := Rel.change hR (g' := g) (hp' := F.hp) (nu' := F.nu) (ch := fun _ => False) (hK.mono fun _ _ h => h.elim) rfl rfl (fun _ _ => rfl) (fun b h => .inr h) (fun id blk h => .inl ⟨fun h => h, h⟩) (fun _ _ _ _ _ h1 h2 h3 h4 => hR.mem.inj _ _ _ _ _ h1 h2 h3 h4) (fun id h => hR.mem.nw id h) (fun _ _ => rfl) (fun _ h => h)
 exact this
omit hR in
theorem Rel.ext_le (hK : Keep (fun _ => False) w w') : Cx.Le (cx w g F.hp) (cx w' g F.hp) :=
 Mem.le (g' := g) (hp' := F.hp) (ch := fun _ => False) (hK.mono fun _ _ h => h.elim) rfl rfl (fun _ _ => rfl) (fun _ h => .inr h)
end
theorem Keep.alloc (X : Nat -> Prop) (w : World) (o : Obj) : Keep X w (w.alloc o) :=
 Keep.of_below ((Below.refl _ _).alloc (za4 _) o)
def ze2 (P : Program) (E : En) (n : Nat) (a : Act) (o : Oper) (F' : FrS) (d : D) (w : World) : Prop :=
 ∃ v w' g', ((execOp a.eval o).run P w = .ok (.value v) w' \/ (execOp a.eval o).run P w = .ok .skip w' /\ v = undef) /\ rep (cx w' g' F'.hp) d v /\ Rel E n F' a w' g'
theorem ze2.weak {P : Program} {E : En} {n : Nat} {a : Act} {o : Oper} {F' : FrS} {d d' : D} {w : World} (h : ze2 P E n a o F' d w) (hd : ∀ v w' g', rep (cx w' g' F'.hp) d v -> rep (cx w' g' F'.hp) d' v) : ze2 P E n a o F' d' w := by
 obtain ⟨v, w', g', h1, h2, h3⟩ := h
 exact ⟨v, w', g', h1, hd v w' g' h2, h3⟩
theorem zwq {C : Cx} {id s off len c : Nat} {oc : Option Nat} {v : Value} (h : rep C (.ref id s off len oc) v) (hk : capK c = false) : rep C (.ref id s off len (some c)) v := by
 simp only [rep] at h ⊢
 obtain ⟨h0, a, cap, e, h1, h2, h3, _, h4⟩ := h
 exact ⟨h0, a, cap, e, h1, h2, h3, ⟨(fun c' hc hk' => by cases hc; rw [hk] at hk'; cases hk'), (fun hc => by cases hc)⟩, h4⟩
section
variable {P : Program} {E : En} {n : Nat} {F : FrS} {a : Act} {w : World} {g : Gh} (hR : Rel E n F a w g)
include hR
theorem zak {o : Oper} {d : D} (h : zfd P (cx w g F.hp) a o d w) : ze2 P E n a o (F.eff [] (0, 0)) d w := by
 obtain ⟨v, h1, h2⟩ := h
 rw [zlj]
 exact ⟨v, w, g, .inl h1, h2, hR⟩
theorem zti {o : Oper} {t : TypeId} {cells : List D} {cv : Array Value} {id : Nat} (hn : F.nu id = true) (hrun : (execOp a.eval o).run P w = .ok (.value (.pointer (some ⟨w.heap.size, 0, none⟩))) (w.alloc (.cells cv t)))
  (hc : reps (cx w g F.hp) cells cv.toList) (h1 : cv.toList.all (·.oneCell') = true) : ze2 P E n a o (F.eff [(id, some (.box cells))] (id, id + 1)) (.ptr id 0) w := by
 have hK : Keep (fun _ => False) w (w.alloc (.cells cv t)) := Keep.alloc _ _ _
 obtain ⟨h2, h3⟩ := Rel.made hR (m := id) (blk := .box cells) (loc := some (w.heap.size, 0)) (kl := none) hn (hK.mono fun _ _ h => h.elim) (by rintro b o h; cases h; exact .inl (za4 _)) (by
  intro C hC hle _ hσ
  refine ⟨w.heap.size, cv, t, hσ, by subst hC; exact heap_alloc_new w _, zgv hle _ _ hc, h1⟩)
 refine ⟨_, _, _, .inl hrun, ?_, h2⟩
 simp only [rep, cx]
 exact ⟨trivial, w.heap.size, 0, by simp [setσ], rfl⟩
omit hR in
theorem ya1d {C : Cx} {d : D} {v : Value} (h : rep C d v) (h1 : oneD d = true) : v.oneCell' = true := by
 cases d <;> simp only [oneD, zan] at h1 <;> simp only [rep] at h
 all_goals first
  | (subst h; rfl)
  | (obtain ⟨_, rfl, _⟩ := h; exact ya5h _ _)
  | (obtain ⟨rfl, _⟩ := h; rfl)
  | (obtain ⟨_, _, rfl, _⟩ := h; rfl)
  | (obtain ⟨_, _, _, rfl, _⟩ := h; rfl)
  | (obtain ⟨_, _, _, _, _, rfl⟩ := h; rfl)
  | (obtain ⟨_, _, _, _, rfl⟩ := h; rfl)
  | (obtain ⟨_, _, _, rfl⟩ := h; rfl)
  | (obtain ⟨_, rfl, _⟩ := h; rfl)
  | (cases v <;> first | rfl | cases h)
omit hR in
theorem zkr {C : Cx} : ∀ {l : List D} {vs : List Value}, reps C l vs -> l.all oneD = true -> vs.all (·.oneCell') = true
 | [], vs, h, _ => by simp only [reps] at h; subst h; rfl
 | d :: ds, vs, h, h1 => by
  simp only [reps] at h
  obtain ⟨v, vs', rfl, hd, h⟩ := h
  simp only [List.all_cons, za0] at h1 ⊢
  exact ⟨ya1d hd h1.1, zkr h h1.2⟩
omit hR in
theorem zjj : ∀ (l : List D) (vs : List Value), zf5 l vs = true -> vs.all (·.oneCell') = true /\ D.idsL l = [] := by
 intro l vs h
 fun_induction zf5 l vs with
 | case1 => exact ⟨rfl, rfl⟩
 | case10 => cases h
 | case2 b ds b' vs ih | case4 ds s vs ih =>
  simp only [za0] at h
  obtain ⟨h1, h2⟩ := ih h.2
  exact ⟨by simpa [Value.oneCell'] using h1, by simpa [D.idsL, D.ids] using h2⟩
 | case3 k n ds k' n' vs ih =>
  simp only [za0] at h
  obtain ⟨h1, h2⟩ := ih h.2
  exact ⟨by simpa [Value.oneCell'] using h1, by simpa [D.idsL, D.ids] using h2⟩
 | case5 s ds vs ih | case6 ds vs ih | case7 ds vs ih | case8 ds vs ih | case9 ds vs ih =>
  obtain ⟨h1, h2⟩ := ih h
  exact ⟨by simpa [Value.oneCell'] using h1, by simpa [D.idsL, D.ids] using h2⟩
theorem ya5m {o : Oper} {t : TypeId} {ti : TI} {id : Nat} (hn : F.nu id = true) (ho : o.op = .alloc t) (ht : zd0 P t ti = true) : ze2 P E n a o (F.eff [(id, some (.box ti.zero))] (id, id + 1)) (.ptr id 0) w := by
 obtain ⟨i, d, hi, hd, hs, ⟨z, hz, hzc⟩, _⟩ := zci ht
 obtain ⟨h1, h2⟩ := zjj _ _ hzc
 refine zti hR (t := t) (cv := z.cells) hn ?_ (zo7 _ _ hzc) h1
 unfold execOp
 simp [ho, Instr.alloc, zeroValue, typeInfo, hi, hz, newVar, newRow]
theorem ya8v {o : Oper} {t : TypeId} {x : Operand} {d : D} {id : Nat} (hn : F.nu id = true) (ho : o.op = .box t x) (hx : rep (cx w g F.hp) d (a.eval x)) (h1 : d.cells.all oneD = true)
  (hne : d.cells ≠ []) : ze2 P E n a o (F.eff [(id, some (.box d.cells))] (id, id + 1)) (.ptr id 0) w := by
 have hr := zkv hx (zhd hx hne).symm
 refine zti hR (t := t) (cv := (a.eval x).cells) hn ?_ hr (zkr hr h1)
 unfold execOp
 simp [ho, Instr.box, newVar, newRow]
omit hR in
theorem zi4 (w : World) (b : Nat) (old cs : Array Value) (t : TypeId) (fr : Nat × Nat) (hg : w.heap[b]? = some (.cells old t fr)) (hsz : cs.size = old.size) : Keep (fun k => k = b) w (w.setRow b cs) := by
 refine ⟨rfl, rfl, rfl, by simp, fun k _ hk => setRow_other w b k cs hk, fun k _ => ?_⟩
 by_cases e : k = b
 subst e
 simp [World.shape?, setRow_heap w k old cs t fr hg, hg, hsz]
 exact zkg (setRow_other w b k cs e)
omit hR in
theorem zpw {t : TypeId} {ti : TI} {v : Value} {b off : Nat} {old : Array Value} {T : TypeId} (ht : zd0 P t ti = true) (hv : v.cells.size = ti.size) (hg : w.heap[b]? = some (.cells old T (0, 0)))
  (hfit : off + ti.size <= old.size) (h1 : v.cells.toList.all (·.oneCell') = true) :
  (storeVar t ⟨b, off, none⟩ v).run P w = .ok () (w.setRow b (old.toList.take off ++ v.cells.toList ++ old.toList.drop (off + v.cells.size)).toArray) := by
 obtain ⟨_, hsz⟩ := ya0q (w := w) ht
 have := run_storeCells_at P b off T v.cells.toList 0 old w hg (by simpa [hv] using hfit) (List.all_eq_true.1 h1)
 simp only [Nat.add_zero, Array.length_toList] at this
 simp [storeVar, hsz, hv, this]
theorem zxb {o : Oper} {t : TypeId} {ti : TI} {x y : Operand} {id off : Nat} {cs : List D} {d : D} (ho : o.op = .store t x y) (ht : zd0 P t ti = true)
  (hx : rep (cx w g F.hp) (.ptr id off) (a.eval x)) (hy : rep (cx w g F.hp) d (a.eval y)) (hb : F.hp id = some (.box cs)) (hl : d.cells.length = ti.size) (hfit : off + ti.size <= cs.length) (h1 : d.cells.all oneD = true)
  (hne : ti.size ≠ 0) : ze2 P E n a o (F.eff [(id, some (.box (zo2 cs off d.cells)))] (0, 0)) .undef w := by
 simp only [rep] at hx
 obtain ⟨_, b, o', hσ, he⟩ := hx
 obtain ⟨b', cv, T, hσ', hblk, hreps, hone⟩ := hR.mem.hd id _ hb
 have e := hσ'.symm.trans hσ
 simp only [za3, za6] at e
 obtain ⟨rfl, rfl⟩ := e
 have hvs : (a.eval y).cells.size = d.cells.length := zhd hy (by intro e; rw [e] at hl; simp at hl; omega)
 have hvr := zkv hy hvs.symm
 have hv1 := zkr hvr h1
 have hcl : cv.size = cs.length := by simpa using zdc _ _ hreps
 have hst : (storeVar t ⟨b', off, none⟩ (a.eval y)).run P w = .ok () (w.setRow b' (cv.toList.take off ++ (a.eval y).cells.toList ++ cv.toList.drop (off + (a.eval y).cells.size)).toArray) := zpw (P := P) (v := a.eval y) (off := off) ht (by omega) hblk (by omega) hv1
 have hsz : (cv.toList.take off ++ (a.eval y).cells.toList ++ cv.toList.drop (off + (a.eval y).cells.size)).toArray.size = cv.size := by simp; omega
 refine ⟨undef, _, g, .inr ⟨?_, rfl⟩, by simp only [rep], Rel.wrote hR (by rw [hb]; simp) hσ' (zi4 w b' cv _ T _ hblk hsz) ?_⟩
 unfold execOp
 simp only [ho, he, Instr.storeAt, Instr.sureAddr, pure_bind, Sem.run_bind, Nat.zero_add, hst, Result.andThen_ok, Sem.run_pure]
 intro C hC hle hrf hσC
 refine ⟨b', _, T, hσC, by subst hC; exact setRow_heap w b' cv _ T _ hblk, ?_, ?_⟩
 have := zgv hle _ _ (znk (off := off) hreps hvr)
 simpa using this
 have h4 : ∀ k, (cv.toList.take k).all (·.oneCell') = true := fun k => List.all_eq_true.2 fun z hz => List.all_eq_true.1 hone z (List.mem_of_mem_take hz)
 have h5 : ∀ k, (cv.toList.drop k).all (·.oneCell') = true := fun k => List.all_eq_true.2 fun z hz => List.all_eq_true.1 hone z (List.mem_of_mem_drop hz)
 simp only [List.all_append, h4, h5, hv1, Bool.and_self]
end
end Go.Tm
namespace Go.Tm
open Go.RowKit Go.WideShapes
theorem zji {C : Cx} : ∀ (l : List D) (b o s : Nat), elems C l b o s -> ∃ news : List Value, news.length = l.length * s /\ C.w.rangeAt b o news /\ news.all (·.oneCell') = true /\
  ∀ (w' : World) (b' o' : Nat), w'.rangeAt b' o' news -> ∀ C' : Cx, C'.w = w' -> C.Le C' -> elems C' l b' o' s
 | [], b, o, s, _ => ⟨[], by simp, fun j v hj => by simp at hj, rfl, fun _ _ _ _ _ _ _ => by simp only [elems]⟩
 | d :: ds, b, o, s, h => by
  simp only [elems] at h
  obtain ⟨⟨v, h1, h2, h3, h4⟩, h5⟩ := h
  obtain ⟨news, g1, g2, g3, g4⟩ := zji ds b (o + s) s h5
  refine ⟨v.cells.toList ++ news, by simp [g1, h2, Nat.succ_mul, Nat.add_comm], ?_, by simp only [List.all_append, h3, g3, Bool.and_self], ?_⟩
  intro j u hj
  rw [List.getElem?_append] at hj
  split at hj
  exact h4 j u hj
  rename_i hlt
  have := g2 _ u hj
  simp only [Array.length_toList, h2] at this hlt
  rwa [show o + s + (j - s) = o + j by omega] at this
  intro w' b' o' hr C' hw hle
  simp only [elems]
  refine ⟨⟨v, zew hle d v h1, h2, h3, ?_⟩, g4 w' b' (o' + s) ?_ C' hw hle⟩
  rw [hw]
  intro j u hj
  refine hr j u ?_
  rw [List.getElem?_append_left (List.getElem?_eq_some_iff.1 hj).1]
  exact hj
  intro j u hj
  have := hr (s + j) u (by rw [List.getElem?_append_right (by simp [h2])]; simpa [h2] using hj)
  rwa [show o' + (s + j) = o' + s + j by omega] at this
theorem zgj {C : Cx} : ∀ (l l' : List D) (b o s : Nat), elems C l b o s -> elems C l' b (o + l.length * s) s -> elems C (l ++ l') b o s
 | [], l', b, o, s, _, h => by simpa using h
 | d :: ds, l', b, o, s, h, h' => by
  simp only [elems] at h
  simp only [zal, elems]
  refine ⟨h.1, zgj ds l' b (o + s) s h.2 ?_⟩
  simp only [za5, Nat.succ_mul] at h'
  rwa [show o + s + ds.length * s = o + (ds.length * s + s) by omega]
theorem zrk (m : Nat) : ∀ (l : List D), (mkML m l).length = l.length
 | [] => by simp only [mkML]
 | d :: ds => by simp only [mkML, za5, zrk m ds]
theorem zrj (m : Nat) (l : List D) : (mkZL m l).length = l.length := by
 cases m
 rfl
 exact zrk _ l
theorem ya1i (m : Nat) : ∀ (l : List D), mkZL m l = l.map (mkZ m)
 | [] => by cases m <;> simp [mkZL, mkML]
 | d :: ds => by
  have := ya1i m ds
  cases m
  simp only [mkZL] at this ⊢; simp [mkZ]; exact this
  simp only [mkZL, mkML, zah] at this ⊢; rw [this]; rfl
theorem ya23 {C : Cx} {m : Nat} {Z : Nat -> Prop} (hz : C.zone m = some Z) (hf : C.fl = true) : ∀ (l : List D) (b o s : Nat), elems (C.at Z) l b o s -> elems C.noref (mkZL m l) b o s := by
 intro l
 rw [ya1i]
 induction l with
 | nil => intro b o s _; simp only [List.map_nil, elems]
 | cons d ds ih =>
  intro b o s h
  simp only [elems, zah] at h ⊢
  obtain ⟨⟨v, h1, h2, h3, h4⟩, h5⟩ := h
  exact ⟨⟨v, ya12 (C := C.noref) hz hf h1, h2, h3, h4⟩, ih _ _ _ h5⟩
def SrcV (C : Cx) (esz : Nat) (xs : List D) (p : Bool) (v : Value) : Prop :=
 (∃ ax c, v = .slice ax xs.length c /\ (xs = [] \/ ∃ a0 : Addr, ax = some a0 /\ a0.spot = none /\ elems { C with rf := !p } xs a0.block a0.off esz)) \/ (p = true /\ ∃ l : List UInt8, v = .string ⟨l.toArray⟩ /\ xs = l.map ub /\ esz = 1)
def Carry (C : Cx) (xs : List D) (s : Nat) (news : List Value) : Prop :=
 ∀ (w' : World) (b' o' : Nat), w'.rangeAt b' o' news -> ∀ C' : Cx, C'.w = w' -> C.Le C' -> elems C' xs b' o' s
theorem ya7c {C : Cx} (b : UInt8) : rep C (ub b) (.int .u8 (b.toNat : Int)) := by
 simp only [ub, rep]
 have := b.toNat_lt
 refine ⟨trivial, ?_, ?_⟩ <;> simp [IntKind.min, IntKind.max, IntKind.signed, IntKind.bits] <;> omega
theorem znq {C : Cx} : ∀ (l : List UInt8), Carry C (l.map ub) 1 (l.map fun b => Value.int .u8 (b.toNat : Int))
 | [], w', b', o', h, C', hw, hle => by simp only [List.map_nil, elems]
 | b :: l, w', b', o', h, C', hw, hle => by
  simp only [zah, elems] at h ⊢
  refine ⟨⟨_, ya7c b, rfl, rfl, ?_⟩, znq l w' b' (o' + 1) ?_ C' hw hle⟩
  rw [hw]
  intro j u hj
  cases j with
  | zero => simp [Value.cells] at hj; subst hj; exact h 0 _ rfl
  | succ j => simp [Value.cells] at hj
  intro j u hj
  have := h (j + 1) u (by simpa using hj)
  rwa [show o' + (j + 1) = o' + 1 + j by omega] at this
theorem zto {C : Cx} {s : Nat} : ∀ (n : Nat) (xs : List D) (b o : Nat), elems C xs b o s -> n <= xs.length -> ∃ news : List Value, news.length = n * s /\ C.w.rangeAt b o news /\ news.all (·.oneCell') = true /\ Carry C (xs.take n) s news := by
 intro n xs b o h hn
 obtain ⟨news, h1, h2, h3, h4⟩ := zji _ _ _ _ (zg6 xs n b o s h)
 exact ⟨news, by rw [h1, List.length_take, Nat.min_eq_left hn], h2, h3, h4⟩
section
variable {P : Program} {C : Cx}
theorem zqu {a0 : Addr} (h : a0.spot = none) (j : Nat) : a0.add j = ⟨a0.block, a0.off + j, none⟩ := by
 unfold Addr.add; split
 ·cases a0; simp_all
 rfl
theorem SrcV.first {esz : Nat} {xs : List D} {p : Bool} {v : Value} (h : SrcV C esz xs p v) {n : Nat} (hn : n <= xs.length) :
  ∃ news : List Value, news.length = n * esz /\ (Builtin.firstCells esz n v).run P C.w = .ok news.toArray C.w /\ news.all (·.oneCell') = true /\ Carry { C with rf := !p } (xs.take n) esz news := by
 rcases h with ⟨ax, c, rfl, h⟩ | ⟨rfl, l, rfl, rfl, rfl⟩
 rcases h with rfl | ⟨a0, rfl, hs, he⟩
 have : n = 0 := by simpa using hn
 subst this
 refine ⟨[], by simp, ?_, rfl, fun _ _ _ _ _ _ _ => by simp only [List.take_nil, elems]⟩
 cases ax <;> simp [Builtin.firstCells, loadCells, loadCellsFrom]
 obtain ⟨news, h1, h2, h3, h4⟩ := zto n xs _ _ he hn
 refine ⟨news, h1, ?_, h3, h4⟩
 refine run_firstCells_some C.w esz n a0 xs.length c news h1 ?_
 intro j u hj
 rw [zqu hs]
 exact h2 j u hj
 refine ⟨(l.take n).map fun b => Value.int .u8 (b.toNat : Int), by simp at hn ⊢; omega, ?_, ?_, ?_⟩
 simp only [Builtin.firstCells, Sem.run_pure]
 congr 1
 apply Array.ext'
 simp [ByteArray.data_extract]
 exact List.all_eq_true.2 fun x hx => by obtain ⟨_, _, rfl⟩ := List.mem_map.1 hx; rfl
 rw [<- List.map_take]
 exact znq _
theorem SrcV.len {esz : Nat} {xs : List D} {p : Bool} {v : Value} (h : SrcV C esz xs p v) (w' : World) : (Builtin.lenOf v).run P w' = .ok xs.length w' := by
 rcases h with ⟨ax, c, rfl, h⟩ | ⟨_, l, rfl, rfl, rfl⟩
 rfl
 simp [Builtin.lenOf, ByteArray.size]
theorem SrcV.src {esz : Nat} {xs : List D} {p : Bool} {v : Value} {tx : TypeId} (h : SrcV C esz xs p v) (ht : (∃ e', P.underlying tx = some (.slice e')) \/ P.underlying tx = some .string) :
  ∃ news : List Value, Go.Src P esz tx v xs.length news C.w /\ Carry { C with rf := !p } xs esz news := by
 obtain ⟨news, h1, h2, h3, h4⟩ := h.first (P := P) (za4 _)
 rw [List.take_length] at h4
 refine ⟨news, ⟨ht, h.len, h2, ?_, h1, List.all_eq_true.1 h3⟩, h4⟩
 rcases h with ⟨ax, c, rfl, h⟩ | ⟨rfl, l, rfl, rfl, rfl⟩
 cases ax with
 | none =>
  have : xs = [] := by
   rcases h with h | ⟨a0, h, _⟩
   exact h
   cases h
  subst this
  have : news = [] := zad (by simpa using h1)
  subst this
  simp [Builtin.firstCells]
 | some a =>
  rcases h with rfl | ⟨a0, ha, hs, he⟩
  have : news = [] := zad (by simpa using h1)
  subst this
  simp [Builtin.firstCells, loadCells, loadCellsFrom]
  cases ha
  obtain ⟨news', g1, g2, g3, g4⟩ := zto xs.length xs _ _ he (za4 _)
  have e1 := run_firstCells_some (P := P) C.w esz xs.length a xs.length c news' g1 (by intro j u hj; rw [zqu hs]; exact g2 j u hj)
  rw [h2] at e1
  have e2 : news = news' := by
   injection e1 with e1
   have := congrArg Array.toList e1
   simpa using this
  subst e2
  exact run_firstCells_some (P := P) C.w.drew esz xs.length a xs.length c news g1 (by intro j u hj; rw [zqu hs]; simpa using g2 j u hj)
 simp only [Builtin.firstCells, Sem.run_pure, Result.ok.injEq] at h2 ⊢
 exact ⟨h2.1, trivial⟩
end
section
variable {P : Program} {E : En} {n : Nat} {F : FrS} {a : Act} {w : World} {g : Gh} (hR : Rel E n F a w g)
include hR
theorem zm1 {esz : Nat} {dx : D} {v : Value} {xs : List D} {p vx : Bool} (rx : rep (cx w g F.hp) dx v) (hm : srcD F.hp esz dx = some (xs, p, vx)) (hv : vx = true) : SrcV (cx w g F.hp) esz xs p v := by
 unfold srcD at hm
 split at hm
 rename_i s' l c
 cases hm
 simp only [za0, zas, List.isEmpty_iff] at hv
 obtain ⟨hv1, hv2⟩ := hv
 obtain ⟨Z, hZ⟩ := hR.mem.live (lb hv2)
 simp only [rep] at rx
 obtain ⟨ad, cap, rfl, _, _, _, _, _, _, _, h⟩ := rx
 refine .inl ⟨ad, cap, by rw [zrj], ?_⟩
 rcases h with rfl | h
 left; cases c / 8 <;> simp [mkZL, mkML]
 rcases hv1 with hv1 | rfl
 obtain rfl := nb hv1
 obtain ⟨a0, h1, h2, _, _, _, h3⟩ := h Z hZ
 exact .inr ⟨a0, h1, h2, ya23 hZ rfl _ _ _ _ h3⟩
 left; cases c / 8 <;> simp [mkZL, mkML]
 rename_i id s' off len oc
 split at hm
 rename_i e s'' p' items hb
 cases hm
 simp only [za0] at hv
 obtain ⟨⟨hv1, hv2⟩, hl⟩ := hv
 obtain rfl := nb hv1
 obtain rfl := nb hv2
 have hl := lb hl
 simp only [rep] at rx
 obtain ⟨_, ad, cap, rfl, h1, h2, h3, _, h4⟩ := rx
 have hlen : ((items.drop off).take len).length = len := by simp; omega
 refine .inl ⟨ad, cap, by rw [hlen], ?_⟩
 by_cases hz : len = 0
 left; subst hz; simp
 right
 rcases h4 with h4 | ⟨b, T, nn, hσ, rfl, hsh, hn⟩
 omega
 rcases hR.mem.hd id _ hb with ⟨rfl, _⟩ | ⟨b', cs, hσ', hblk, hsz, hel⟩
 simp at hl; omega
 have e := hσ'.symm.trans hσ
 simp only [za3, za6] at e
 obtain ⟨rfl, _⟩ := e
 refine ⟨_, rfl, rfl, zg6 _ _ _ _ _ ?_⟩
 have := zhc _ off _ _ _ hel
 simpa using this
 cases hm
 cases hm
 simp only [rep] at rx
 exact .inr ⟨rfl, _, rx.1, rfl, nb hv⟩
 cases hm
omit hR in
theorem zf6 {w : World} {b o : Nat} {cs : Array Value} {T : TypeId} {fz : Nat × Nat} (h : w.heap[b]? = some (.cells cs T fz)) (pre l suf : List Value) (hc : cs.toList = pre ++ l ++ suf) (ho : o = pre.length) : w.rangeAt b o l := by
 intro i u hi
 subst ho
 simp only [World.cell?, h]
 have hlt := (List.getElem?_eq_some_iff.1 hi).1
 have : cs.toList[pre.length + i]? = some u := by
  rw [hc, List.append_assoc, List.getElem?_append_right (by omega), Nat.add_sub_cancel_left, List.getElem?_append_left hlt]
  exact hi
 simpa using this
theorem zmy {o : Oper} {e : TypeId} {id esz ncap : Nat} {its : List D} {p : Bool} {cells rest : List Value} {kl oc : Option Nat} {w1 : World} (hn : F.nu id = true) (hk1 : Keep (fun _ => False) w w1) (hsz1 : w1.heap.size = w.heap.size)
  (hrun : (execOp a.eval o).run P w = .ok (.value (.slice (some ⟨w.heap.size, 0, none⟩) its.length ncap)) (w1.alloc (.cells (cells ++ rest).toArray e)))
  (hrest : cells.length + rest.length = ncap * esz) (hc1 : its.length <= ncap) (hc2 : (ncap : Int) <= 9223372036854775807) (hoc : ∀ c, oc = some c -> capK c = true -> ncap = c)
  (hold : Carry { cx w g F.hp with rf := !p } its esz cells) :
  ze2 P E n a o (F.eff ((id, some (.arr e esz p its)) :: kill kl) (id, id + 1)) (.ref id esz 0 its.length oc) w := by
 have hK : Keep (fun _ => False) w (w1.alloc (.cells (cells ++ rest).toArray e)) := hk1.trans (Keep.alloc _ _ _)
 have hblk : (w1.alloc (.cells (cells ++ rest).toArray e)).heap[w.heap.size]? = some (.cells (cells ++ rest).toArray e (0, 0)) := by
  rw [<- hsz1]; exact heap_alloc_new w1 _
 obtain ⟨h2, h3⟩ := Rel.made hR (m := id) (blk := .arr e esz p its) (loc := some (w.heap.size, 0)) (kl := kl) hn (hK.mono fun _ _ h => h.elim) (by rintro b o h; cases h; exact .inl (za4 _)) (by
  intro C hC hle hrf hσ
  refine .inr ⟨w.heap.size, (cells ++ rest).toArray, hσ, by subst hC; exact hblk, ?_, ?_⟩
  simp only [List.size_toArray, zae, hrest]
  exact Nat.mul_le_mul_right _ hc1
  refine hold (w1.alloc (.cells (cells ++ rest).toArray e)) _ _ (zf6 hblk [] cells rest (by simp) rfl) _ (by subst hC; rfl) (zph hle rfl _ _ (fun x => x)))
 refine ⟨_, _, _, .inl hrun, ?_, h2⟩
 simp only [rep]
 have hsh : (cx (w1.alloc (.cells (cells ++ rest).toArray e)) (setσ g id (some (w.heap.size, 0))) (F.eff ((id, some (.arr e esz p its)) :: kill kl) (id, id + 1)).hp).w.shape? w.heap.size = some (e, ncap * esz) := by
  simp only [cx, World.shape?, hblk, List.size_toArray, zae, hrest]
 exact ⟨rfl, _, _, rfl, hc1, hc2, by simp, ⟨hoc, fun _ => ⟨w.heap.size, e, ncap * esz, by simp [cx, setσ], hsh, by simp⟩⟩, .inr ⟨w.heap.size, e, ncap * esz, by simp [cx, setσ], by simp, hsh, by simp⟩⟩
omit hR in
theorem zt3 {t tx ty e : TypeId} {i : TypeInfo} (ht : P.underlying t = some (.slice e)) (hi : P.info? e = some i) {b off sLen sCap : Nat} {x : Value} {m : Nat} {news : List Value} (hs : Go.Src P i.size tx x m news w)
  {cs : Array Value} {T : TypeId} (hblk : w.heap[b]? = some (.cells cs T (0, 0))) (hfit : off + sLen * i.size + news.length <= cs.size) (hroom : sLen + m <= sCap) :
  (Builtin.append_ #[t, tx] ty #[.slice (some ⟨b, off, none⟩) sLen sCap, x]).run P w = .ok (.slice (some ⟨b, off, none⟩) (sLen + m) sCap) (w.setRow b (cs.toList.take (off + sLen * i.size) ++ news ++ cs.toList.drop (off + sLen * i.size + news.length)).toArray) := by
 have hst := run_storeCells_at P b (off + sLen * i.size) T news 0 cs w hblk (by simpa using hfit) hs.one
 simp only [Nat.add_zero] at hst
 rcases hs.kind with ⟨e', hk⟩ | hk <;> simp [Builtin.append_, run_underlying ht, run_underlying hk, sizeOf, typeInfo, hi, hs.len, hroom, hs.cells, Addr.add_lit, hst]
omit hR in
theorem zhh {t tx ty e : TypeId} {i : TypeInfo} (ht : P.underlying t = some (.slice e)) (hi : P.info? e = some i) {base : Option Addr} {sLen sCap : Nat} {x : Value} (hs : Go.Src P i.size tx x 0 [] w) (hroom : sLen <= sCap) :
  (Builtin.append_ #[t, tx] ty #[.slice base sLen sCap, x]).run P w = .ok (.slice base sLen sCap) w := by
 rcases hs.kind with ⟨e', hk⟩ | hk <;> cases base <;> simp [Builtin.append_, run_underlying ht, run_underlying hk, sizeOf, typeInfo, hi, hs.len, hroom, hs.cells, storeCells]
theorem zx5 {o : Oper} {ti : TI} {e : TypeId} {id k b cap : Nat} {its xs : List D} {p q : Bool} {cs : Array Value} {news : List Value} {oc : Option Nat} {w1 : World} (hn : F.nu id = true)
  (hrun : (execOp a.eval o).run P w = .ok (.value (.slice (some ⟨b, 0, none⟩) (its.length + xs.length) cap)) w1) (hw1 : w1 = w.setRow b (cs.toList.take (its.length * ti.esz) ++ news ++ cs.toList.drop (its.length * ti.esz + news.length)).toArray)
  (hk : F.hp k ≠ none) (hσ : g.σ k = some (b, 0)) (hblk : w.heap[b]? = some (.cells cs e (0, 0))) (hcs : cap * ti.esz <= cs.size) (hnl : news.length = xs.length * ti.esz) (hroom : its.length + xs.length <= cap) (hcap2 : (cap : Int) <= 9223372036854775807)
  (hoc : ∀ c, oc = some c -> capK c = true -> cap = c) (hfull : oc = none -> cap * ti.esz = cs.size) (hele : elems { cx w g F.hp with rf := !p } its b 0 ti.esz) (hnew : Carry { cx w g F.hp with rf := !q } xs ti.esz news) :
  ze2 P E n a o (F.eff ((id, some (.arr e ti.esz (p && q) (its ++ xs))) :: kill (some k)) (id, id + 1)) (.ref id ti.esz 0 (its.length + xs.length) oc) w := by
 subst hw1
 obtain ⟨olds, o1, o2, o3, o4⟩ := zji its _ _ _ hele
 have hfit : its.length * ti.esz + news.length <= cs.size := by
  rw [hnl, <- Nat.add_mul]; exact zar (Nat.mul_le_mul_right _ hroom) hcs
 have hszz : (cs.toList.take (its.length * ti.esz) ++ news ++ cs.toList.drop (its.length * ti.esz + news.length)).toArray.size = cs.size := by simp; omega
 have hK : Keep (zsv g F.hp fun x => some k = some x) w (w.setRow b (cs.toList.take (its.length * ti.esz) ++ news ++ cs.toList.drop (its.length * ti.esz + news.length)).toArray) :=
  (zi4 w b cs _ e _ hblk hszz).mono fun x _ ee => by subst ee; exact ⟨k, 0, rfl, hk, hσ⟩
 have hblk' := setRow_heap w b cs (cs.toList.take (its.length * ti.esz) ++ news ++ cs.toList.drop (its.length * ti.esz + news.length)).toArray e _ hblk
 have hold0 : cs.toList.take (its.length * ti.esz) = olds := by
  apply List.ext_getElem?
  intro i
  rw [List.getElem?_take]
  split
  rename_i hlt
  have hlo : i < olds.length := by rw [o1]; exact hlt
  have := o2 i olds[i] (List.getElem?_eq_getElem hlo)
  simp only [cx, World.cell?, hblk, Nat.zero_add] at this
  rw [List.getElem?_eq_getElem hlo]
  simpa using this
  rename_i hge
  rw [List.getElem?_eq_none]; rw [o1]; omega
 obtain ⟨h2, h3⟩ := Rel.made hR (m := id) (blk := .arr e ti.esz (p && q) (its ++ xs)) (loc := some (b, 0)) (kl := some k) hn hK (by rintro b' o' h; cases h; exact .inr ⟨k, 0, rfl, hk, hσ⟩) (by
  intro C hC hle hrf hσC
  refine .inr ⟨b, _, hσC, by subst hC; exact hblk', ?_, ?_⟩
  rw [hszz, zae]; exact zar (Nat.mul_le_mul_right _ hroom) hcs
  have hCw : C.w = w.setRow b (cs.toList.take (its.length * ti.esz) ++ news ++ cs.toList.drop (its.length * ti.esz + news.length)).toArray := by subst hC; rfl
  refine zgj _ _ _ _ _ (o4 _ _ _ (zf6 hblk' [] olds (news ++ cs.toList.drop (its.length * ti.esz + news.length)) (by rw [hold0]; simp) rfl) _ hCw (zph hle rfl _ _ (by cases p <;> cases q <;> simp))) ?_
  refine hnew _ _ _ (zf6 hblk' olds news (cs.toList.drop (its.length * ti.esz + news.length)) (by rw [hold0]) ?_) _ hCw (zph hle rfl _ _ (by cases p <;> cases q <;> simp))
  rw [Nat.zero_add, o1])
 refine ⟨_, _, _, .inl hrun, ?_, h2⟩
 simp only [rep]
 refine ⟨rfl, _, _, rfl, hroom, hcap2, by simp, ⟨hoc, fun h => ⟨b, e, cs.size, by simp [cx, setσ], ?_, by rw [Nat.zero_mul, Nat.zero_add]; exact hfull h⟩⟩, .inr ⟨b, e, cs.size, by simp [cx, setσ], by simp, ?_, by omega⟩⟩
 all_goals simp only [cx, World.shape?, hblk', hszz]
theorem ya3s {o : Oper} {c : Call} {t t' : TypeId} {ti : TI} {s x : Operand} {ds : D} {xs : List D} {q vx : Bool} {id : Nat} {out : Out} (hn : out.nw = (id, id + 1) -> F.nu id = true) (ho : o.op = .call c) (hc : c.callee = .builtin .append) (hca : c.args.toList = [s, x]) (hct : c.argTypes.toList = [t, t'])
  (ht : zd0 P t ti = true) (hk : ti.kind = 3) (ht' : (∃ e', P.underlying t' = some (.slice e')) \/ P.underlying t' = some .string) (hs : rep (cx w g F.hp) ds (a.eval s)) (hx : vx = true -> SrcV (cx w g F.hp) ti.esz xs q (a.eval x))
  (h : zbv F.hp id ti.el ti.esz ti.eby ds xs q vx = some out) (hv : out.vc = true) :
  ze2 P E n a o (F.eff out.eff out.nw) out.d w := by
 obtain ⟨e, j, hu, hj, hj1, hj2, hj3, hj4, ⟨z, hz, hzs, _⟩, hel⟩ := zcj ht hk
 subst hel
 have e1 : c.args = #[s, x] := by apply Array.ext'; simpa using hca
 have e2 : c.argTypes = #[t, t'] := by apply Array.ext'; simpa using hct
 have hop : ∀ sv, a.eval s = sv -> ∀ v' w', (Builtin.append_ #[t, t'] o.type #[sv, a.eval x]).run P w = .ok v' w' -> (execOp a.eval o).run P w = .ok (.value v') w' := by
  intro sv h1 v' w' hr
  unfold execOp; simp [ho, resolve, hc, e1, e2, h1, invoke, builtin, hr]
 have hgrow : F.nu id = true -> ∀ (base : Option Addr) (its : List D) (p : Bool) (cap : Nat) (kl : Option Nat), a.eval s = .slice base its.length cap -> SrcV (cx w g F.hp) ti.esz its p (.slice base its.length cap) -> vx = true -> cap < its.length + xs.length -> (its.length + xs.length) * ti.eby <= 140737488355328 ->
   ze2 P E n a o (F.eff ((id, some (.arr ti.el ti.esz (p && q) (its ++ xs))) :: kill kl) (id, id + 1)) (.ref id ti.esz 0 (its.length + xs.length) none) w := by
  intro hn base its p cap kl hsv hsrc hvx hlt hb
  have hbd : its.length + xs.length <= 140737488355328 := by
   have : (its.length + xs.length) * 1 <= (its.length + xs.length) * ti.eby := Nat.mul_le_mul_left _ (by omega)
   omega
  obtain ⟨news, hN, hNc⟩ := (hx hvx).src (P := P) ht'
  obtain ⟨olds, hO, hOc⟩ := hsrc.src (P := P) (.inl ⟨ti.el, hu⟩)
  have hr := hop _ hsv _ _ (run_append_grow_src (P := P) w t t' o.type ti.el j z hu hj hz base its.length cap olds (by rw [hj1]; exact hO.cellsD) _ xs.length news (by rw [hj1]; exact hN) hlt (by omega) (growslice_fits (by omega) (by rw [hj2]; exact hb)))
  have hge := grownCap_ge w (its.length + xs.length) cap ti.el
  have hmx := grownCap_le_maxLen w (its.length + xs.length) cap ti.el (by unfold maxLen; omega)
  unfold maxLen at hmx
  have hlen : (its ++ xs).length = its.length + xs.length := zae
  rw [<- hlen]
  refine zmy hR (e := ti.el) (esz := ti.esz) (ncap := grownCap w (its.length + xs.length) cap ti.el) (cells := olds ++ news) (rest := (Builtin.zeroCells z.cells (grownCap w (its.length + xs.length) cap ti.el - (its.length + xs.length))).toList) (w1 := w.drew) hn (Keep.refl _ w).drew rfl ?_ ?_ ?_ ?_ ?_ ?_
  rw [hr, hlen]
  congr 3
  apply Array.ext'
  simp
  have hz0 : (Builtin.zeroCells z.cells (grownCap w (its.length + xs.length) cap ti.el - (its.length + xs.length))).toList.length = (grownCap w (its.length + xs.length) cap ti.el - (its.length + xs.length)) * ti.esz := by
   rw [<- hj1, <- hzs, <- size_zeroCells]; exact Array.length_toList
  rw [zae, hO.newsLen, hN.newsLen, hz0, <- Nat.add_mul, <- Nat.add_mul]
  congr 1; omega
  omega
  omega
  intro c hc; cases hc
  intro w' b' o' hr' C' hw hle
  refine zgj _ _ _ _ _ (hOc w' b' o' ?_ C' hw ?_) (hNc w' b' _ ?_ C' hw ?_)
  intro i u hi
  exact hr' i u (by rw [List.getElem?_append_left (List.getElem?_eq_some_iff.1 hi).1]; exact hi)
  refine Cx.Le.trans (B := { cx w g F.hp with rf := !(p && q) }) ?_ hle (za4 _)
  exact zph (Cx.Le.refl _) rfl _ _ (by cases p <;> cases q <;> simp)
  intro i u hi
  have := hr' (olds.length + i) u (by rw [List.getElem?_append_right (by omega), Nat.add_sub_cancel_left]; exact hi)
  rwa [show o' + (olds.length + i) = o' + its.length * ti.esz + i by rw [hO.newsLen]; omega] at this
  refine Cx.Le.trans (B := { cx w g F.hp with rf := !(p && q) }) ?_ hle (za4 _)
  exact zph (Cx.Le.refl _) rfl _ _ (by cases p <;> cases q <;> simp)
 unfold zbv at h
 split at h
 -- to nothing
 rename_i s' c'
 simp only [rep] at hs
 obtain ⟨ad, cap, hsv, g1, g2, g3, g4, g5, g6, g7, g8⟩ := hs
 split at h
 cases h
 have hv1 : vx = true := hv
 obtain ⟨news, hN, hNc⟩ := (hx hv1).src (P := P) ht'
 have hnn : news = [] := zad (by simpa using hN.newsLen)
 subst hnn
 have hr := hop _ hsv _ _ (zhh (P := P) hu hj (by rw [hj1]; exact hN) (Nat.zero_le _))
 refine zak hR ⟨_, hr, ?_⟩
 simp only [rep]
 exact ⟨ad, cap, rfl, g1, g2, g3, g4, g5, g6, g7, .inl trivial⟩
 rename_i y ys
 cases h
 simp only [za0, zas, decide_eq_true_eq] at hv
 obtain ⟨⟨hv1, hv2⟩, hv3⟩ := hv
 have hcap : cap = 0 := g5 (by rcases hv2 with h | h; exact .inl (lb h); exact .inr (nb h))
 subst hcap
 have := hgrow (hn rfl) ad [] q 0 none (by simpa using hsv) (.inl ⟨ad, 0, by simp, .inl rfl⟩) hv1 (by simp) (by simpa using hv3)
 simpa [kill] using this
 rename_i id' s' off len oc
 split at h
 rename_i e' s'' p items hb
 have hs0 := hs
 simp only [rep] at hs0
 obtain ⟨_, ad, cap, hsv, g1, g2, g3, goc, g4⟩ := hs0
 rw [hsv] at hs
 have hb0 : F.hp id' ≠ none := by rw [hb]; simp
 -- what lies there
 have hrow : s' = ti.esz -> s'' = ti.esz -> e' = ti.el -> (cap = 0) \/ ∃ b cs, ad = some ⟨b, off * ti.esz, none⟩ /\ g.σ id' = some (b, 0) /\ w.heap[b]? = some (.cells cs ti.el (0, 0)) /\ off * ti.esz + cap * ti.esz <= cs.size /\ elems { cx w g F.hp with rf := !p } items b 0 ti.esz /\ (oc = none -> off * ti.esz + cap * ti.esz = cs.size) := by
  rintro rfl rfl rfl
  rcases g4 with g4 | ⟨b, T, nn, hσ, rfl, hsh, hnn⟩
  exact .inl g4
  rcases hR.mem.hd id' _ hb with ⟨rfl, hσ'⟩ | ⟨b', cs, hσ', hblk, hsz, hele⟩
  rw [hσ] at hσ'; cases hσ'
  have e := hσ'.symm.trans hσ
  simp only [za3, za6] at e
  obtain ⟨rfl, _⟩ := e
  have hblk' : w.heap[b']? = some (.cells cs ti.el (0, 0)) := hblk
  have hshe : (cx w g F.hp).w.shape? b' = some (ti.el, cs.size) := by simp [cx, World.shape?, hblk']
  rw [hsh] at hshe
  simp only [za3, za6] at hshe
  refine .inr ⟨b', cs, rfl, hσ', hblk', by rw [<- hshe.2]; exact hnn, hele, fun ho => ?_⟩
  obtain ⟨b2, T2, n2, k1, k2, k3⟩ := goc.2 ho
  have e2 := k1.symm.trans hσ
  simp only [za3, za6] at e2
  obtain ⟨rfl, _⟩ := e2
  rw [hsh] at k2
  simp only [za3, za6] at k2
  rw [<- hshe.2, k2.2]; exact k3
 have hsrc : s' = ti.esz -> s'' = ti.esz -> off + len <= items.length -> SrcV (cx w g F.hp) ti.esz ((items.drop off).take len) p (.slice ad ((items.drop off).take len).length cap) := by
  intro h1 h2 h3
  have hlen : ((items.drop off).take len).length = len := by simp; omega
  rw [hlen]
  refine zm1 hR (esz := ti.esz) (dx := .ref id' s' off len oc) (vx := Nat.beq s' ti.esz && Nat.beq s'' ti.esz && Nat.ble (off + len) items.length) hs ?_ ?_
  simp only [srcD, hb]
  simp only [za0]
  exact ⟨⟨by rw [h1]; exact Nat.beq_refl _, by rw [h2]; exact Nat.beq_refl _⟩, zam h3⟩
 -- in place
 have hplace : F.nu id = true -> s' = ti.esz -> s'' = ti.esz -> e' = ti.el -> off = 0 -> len = items.length -> vx = true -> len + xs.length <= cap -> (∀ c, oc = some c -> capK c = true -> cap = c) ->
   ze2 P E n a o (F.eff [(id, some (.arr ti.el ti.esz (p && q) (items ++ xs))), (id', none)] (id, id + 1)) (.ref id ti.esz 0 (len + xs.length) oc) w := by
  intro hn h1 h2 h3 h4 h5 hvx hroom hoc
  obtain ⟨news, hN, hNc⟩ := (hx hvx).src (P := P) ht'
  rcases hrow h1 h2 h3 with hc0 | ⟨b, cs, had, hσ, hblk, hcs, hele, hfull⟩
  have hx0 : xs = [] := zad (by omega)
  have hi0 : items = [] := zad (by omega)
  subst hx0
  subst hi0
  have hnn : news = [] := zad (by simpa using hN.newsLen)
  subst hnn
  have hr := hop _ hsv _ _ (zhh (P := P) hu hj (by rw [hj1]; exact hN) g1)
  cases hoc0 : oc with
  | some c0 =>
   obtain ⟨h2', h3'⟩ := Rel.made hR (m := id) (blk := .arr ti.el ti.esz (p && q) []) (loc := none) (kl := some id') hn ((Keep.refl _ w).mono fun _ _ h => h) (by rintro b o h; cases h) (by
    intro C hC hle hrf hσ
    exact .inl ⟨rfl, hσ⟩)
   refine ⟨_, _, _, .inl hr, ?_, h2'⟩
   simp only [rep]
   exact ⟨rfl, _, _, rfl, by simpa using g1, g2, g3, ⟨fun c h => hoc c (by rw [hoc0]; exact h), (fun h => by cases h)⟩, .inl hc0⟩
  | none =>
   obtain ⟨b, T, nn, hσ, hsh, hnn⟩ := goc.2 hoc0
   rcases hR.mem.hd id' _ hb with ⟨_, hσ'⟩ | ⟨b', cs, hσ', hblk, hsz, hele⟩
   rw [hσ] at hσ'; cases hσ'
   have e := hσ'.symm.trans hσ
   simp only [za3, za6] at e
   obtain ⟨rfl, _⟩ := e
   subst h2 h3
   have hblk0 : w.heap[b']? = some (.cells cs ti.el (0, 0)) := hblk
   obtain ⟨h2', h3'⟩ := Rel.made hR (m := id) (blk := .arr ti.el ti.esz (p && q) []) (loc := some (b', 0)) (kl := some id') hn ((Keep.refl _ w).mono fun _ _ h => h) (by rintro b o h; cases h; exact .inr ⟨id', 0, rfl, hb0, hσ'⟩) (by
    intro C hC hle hrf hσC
    exact .inr ⟨b', cs, hσC, by subst hC; exact hblk0, by simp, by simp only [elems]⟩)
   refine ⟨_, _, _, .inl hr, ?_, h2'⟩
   simp only [rep]
   refine ⟨rfl, _, _, rfl, by simpa using g1, g2, g3, ⟨(fun c h => by cases h), fun _ => ⟨b', T, nn, by simp [cx, setσ], hsh, ?_⟩⟩, .inl hc0⟩
   rw [h4, h1] at hnn; exact hnn
  subst h4
  simp only [Nat.zero_mul, Nat.zero_add] at had hcs hfull
  subst had
  have hr := hop _ hsv _ _ (zt3 (P := P) (off := 0) hu hj (by rw [hj1]; exact hN) hblk (by rw [hN.newsLen, hj1, Nat.zero_add, <- Nat.add_mul]; exact zar (Nat.mul_le_mul_right _ hroom) hcs) hroom)
  subst h5
  exact zx5 hR (ti := ti) (k := id') hn hr (by rw [hj1]; simp only [Nat.zero_add]) hb0 hσ hblk hcs hN.newsLen hroom g2 hoc hfull hele hNc
 cases oc with
 | none =>
  simp only [za3] at h
  subst h
  simp only [za0, decide_eq_true_eq] at hv
  obtain ⟨⟨⟨⟨⟨⟨v1, v2⟩, v3⟩, v4⟩, v5⟩, v6⟩, v7⟩ := hv
  have v2 := nb v2
  have v3 := nb v3
  have v4 := nb v4
  have v5 := nb v5
  have v6 := nb v6
  by_cases hroom : len + xs.length <= cap
  exact hplace (hn rfl) v3 v4 v2 v5 v6 v1 hroom (fun c h => by cases h)
  have hi : (items.drop off).take len = items := by subst v5 v6; simp
  have := hsrc v3 v4 (by omega)
  rw [hi] at this
  have := hgrow (hn rfl) ad items p cap (some id') (by rw [<- v6]; exact hsv) this v1 (by omega) v7
  rw [v6]
  exact this
 | some c0 =>
  simp only at h
  cases hk0 : capK c0
  rw [hk0] at h
  simp only [Bool.not_false, cond_true, za3] at h
  subst h
  simp only [za0, decide_eq_true_eq] at hv
  obtain ⟨⟨⟨⟨⟨⟨v1, v2⟩, v3⟩, v4⟩, v5⟩, v6⟩, v7⟩ := hv
  have v2 := nb v2
  have v3 := nb v3
  have v4 := nb v4
  have v5 := nb v5
  have v6 := nb v6
  by_cases hroom : len + xs.length <= cap
  exact hplace (hn rfl) v3 v4 v2 v5 v6 v1 hroom (fun c h hk => by cases h; rw [hk0] at hk; cases hk)
  have hi : (items.drop off).take len = items := by subst v5 v6; simp
  have := hsrc v3 v4 (by omega)
  rw [hi] at this
  have := hgrow (hn rfl) ad items p cap (some id') (by rw [<- v6]; exact hsv) this v1 (by omega) v7
  rw [v6]
  exact this.weak (fun v w' g' hr => zwq hr hk0)
  rw [hk0] at h
  simp only [Bool.not_true, cond_false] at h
  have hc0 := goc.1 c0 rfl hk0
  cases hlt : Nat.blt c0 (len + xs.length)
  rw [hlt] at h
  simp only [cond_false] at h
  have hge : len + xs.length <= c0 := by
   rcases Nat.lt_or_ge c0 (len + xs.length) with h' | h'
   have : Nat.blt c0 (len + xs.length) = true := zam h'
   rw [hlt] at this; cases this
   exact h'
  split at h
  cases h
  obtain ⟨news, hN, hNc⟩ := (hx hv).src (P := P) ht'
  have hnn : news = [] := zad (by simpa using hN.newsLen)
  subst hnn
  have hr := hop _ hsv _ _ (zhh (P := P) hu hj (by rw [hj1]; exact hN) g1)
  rw [zlj]
  exact ⟨_, _, g, .inl hr, hs, hR⟩
  cases h
  simp only [za0] at hv
  obtain ⟨⟨⟨⟨⟨v1, v2⟩, v3⟩, v4⟩, v5⟩, v6⟩ := hv
  exact hplace (hn rfl) (nb v3) (nb v4) (nb v2) (nb v5) (nb v6) v1 (by omega) goc.1
  rw [hlt] at h
  simp only [cond_true, za3] at h
  subst h
  have hlt' : c0 < len + xs.length := lb hlt
  simp only [za0, decide_eq_true_eq] at hv
  obtain ⟨⟨⟨⟨⟨v1, v2⟩, v3⟩, v4⟩, v6⟩, v7⟩ := hv
  have v6 := lb v6
  have hlen : ((items.drop off).take len).length = len := by simp; omega
  have := hgrow (hn rfl) ad ((items.drop off).take len) p cap none (by rw [hlen]; exact hsv) (hsrc (nb v3) (nb v4) v6) v1 (by rw [hlen]; omega) (by rw [hlen]; exact v7)
  rw [hlen] at this
  exact this
 cases h
 cases h
end
end Go.Tm
namespace Go.Tm
open Go.RowKit Go.WideShapes
mutual
theorem zo8 {C : Cx} {q : Nat -> Bool} {Zt : Nat -> Prop} (hq : ∀ m, q m = true -> ∃ Z, C.zone m = some Z /\ ∀ b, ¬ C.M b -> Z b -> b < C.w.heap.size -> Zt b) : ∀ (d : D) (v : Value), okM q d = true -> d.ids = [] -> rep C d v -> rep (C.at Zt) (unf d) v
 | .bool b, v, _, _, h => by simpa only [rep, unf] using h
 | .int k n, v, _, _, h => by simpa only [rep, unf] using h
 | .str l, v, _, _, h => by simpa only [rep, unf] using h
 | .agg l, v, hk, hi, h => by
  simp only [rep, unf, okM, D.ids] at h hk hi ⊢
  obtain ⟨cs, rfl, h⟩ := h
  exact ⟨cs, rfl, zjq hq l cs hk hi h⟩
 | .imm s l c, v, hk, _, h => by
  simp only [rep, unf, okM, zas, List.isEmpty_iff] at h hk ⊢
  obtain ⟨a, cap, rfl, h1, h2, h3, h4, h5, h6, hfl, h7⟩ := h
  have hu := zv3 c
  have hm : unk c % 8 = unk c := by omega
  have hm0 : unk c / 8 = 0 := by omega
  rw [hm, hm0]
  refine ⟨a, cap, rfl, h1, h2, fun e => h3 (by omega), fun e => h4 (by omega), fun e => h5 (by omega), h6, fun h => absurd h (by omega), ?_⟩
  rcases h7 with h7 | h7
  exact .inl h7
  rcases hk with hk | hk
  obtain ⟨Z, hZ, hb⟩ := hq _ hk
  obtain ⟨a0, ha, hs, hM, hlo, hlt, he⟩ := h7 Z hZ
  right
  intro Z' hZ'
  have : Z' = Zt := by simpa [Cx.zone, Cx.at] using hZ'.symm
  subst this
  exact ⟨a0, ha, hs, hM, hb _ hM hlo hlt.1, hlt.any (by omega), zfe (C := C.at Z) (C' := (C.at Z').at Z') (Cx.Le.inner (C := C) (C' := C) (fun _ _ => rfl) fun b g1 g2 g3 => ⟨g1, hb b g1 g2 g3, rfl⟩) _ _ _ _ rfl he⟩
  exact .inl hk
 | .ref id s off len oc, v, _, hi, h => by simp [D.ids] at hi
 | .ptr id off, v, _, hi, h => by simp [D.ids] at hi
 | .eptr id s i off, v, _, hi, h => by simp [D.ids] at hi
 | .iptr m l, v, hk, _, h => by
  simp only [rep, unf, okM] at h hk ⊢
  obtain ⟨a0, rfl, hs, hfl, h7⟩ := h
  refine ⟨a0, rfl, hs, fun h => absurd h (by omega), ?_⟩
  rcases h7 with h7 | h7
  exact .inl h7
  obtain ⟨Z, hZ, hb⟩ := hq _ hk
  obtain ⟨hM, hlo, hlt, he⟩ := h7 Z hZ
  right
  intro Z' hZ'
  have : Z' = Zt := by simpa [Cx.zone, Cx.at] using hZ'.symm
  subst this
  exact ⟨hM, hb _ hM hlo hlt, hlt, zsj (C := C.at Z) (C' := (C.at Z').at Z') (Cx.Le.inner (C := C) (C' := C) (fun _ _ => rfl) fun b g1 g2 g3 => ⟨g1, hb b g1 g2 g3, rfl⟩) _ _ _ rfl he⟩
 | .nilptr, v, _, _, h => by simpa only [rep, unf] using h
 | .tuple l, v, hk, hi, h => by
  simp only [rep, unf, okM, D.ids] at h hk hi ⊢
  obtain ⟨cs, rfl, h⟩ := h
  exact ⟨cs, rfl, zjq hq l cs hk hi h⟩
 | .fn f l, v, hk, hi, h => by
  simp only [rep, unf, okM, D.ids] at h hk hi ⊢
  obtain ⟨cs, rfl, h⟩ := h
  exact ⟨cs, rfl, zjq hq l cs hk hi h⟩
 | .nilfn, v, _, _, h => by simpa only [rep, unf] using h
 | .iface t d, v, hk, hi, h => by
  simp only [rep, unf, okM, D.ids] at h hk hi ⊢
  obtain ⟨x, rfl, h⟩ := h
  exact ⟨x, rfl, zo8 hq d x hk hi h⟩
 | .nilIface, v, _, _, h => by simpa only [rep, unf] using h
 | .mref id, v, _, hi, h => by simp [D.ids] at hi
 | .nilmap, v, _, _, h => by simpa only [rep, unf] using h
 | .sc, v, _, _, h => by simpa only [rep, unf] using h
 | .when c d, v, hk, hi, h => by
  simp only [rep, unf, okM, D.ids] at h hk hi ⊢
  exact ⟨fun hc => zo8 hq d v hk hi (h.1 hc), h.2⟩
 | .undef, v, _, _, _ => by simp only [rep, unf]
theorem zjq {C : Cx} {q : Nat -> Bool} {Zt : Nat -> Prop} (hq : ∀ m, q m = true -> ∃ Z, C.zone m = some Z /\ ∀ b, ¬ C.M b -> Z b -> b < C.w.heap.size -> Zt b) : ∀ (l : List D) (vs : List Value), okML q l = true -> D.idsL l = [] -> reps C l vs -> reps (C.at Zt) (unfL l) vs
 | [], vs, _, _, h => by simpa only [reps, unfL] using h
 | d :: ds, vs, hk, hi, h => by
  simp only [reps, unfL, okML, za0, D.idsL, List.append_eq_nil_iff] at h hk hi ⊢
  obtain ⟨v, vs', rfl, h1, h2⟩ := h
  exact ⟨v, vs', rfl, zo8 hq d v hk.1 hi.1 h1, zjq hq ds vs' hk.2 hi.2 h2⟩
end
theorem zjk : ∀ (l : List D), (unfL l).length = l.length
 | [] => rfl
 | d :: ds => by simp only [unfL, za5, zjk ds]
theorem Mem.low {fr w g hp nu} (h : Mem fr w g hp nu) : ∀ m, low3 m = true -> ∃ Z, (cx w g hp).zone m = some Z /\ ∀ b, ¬ (cx w g hp).M b -> Z b -> b < (cx w g hp).w.heap.size -> g.Z b := by
 intro m hm
 obtain ⟨Z1, h1, h2, _⟩ := h.zs.z1
 obtain ⟨Z2, h3, h4⟩ := h.zs.z2
 have hm : m < 3 := lb hm
 rcases m with _ | _ | _ | m
 exact ⟨_, rfl, fun b _ h _ => h⟩
 exact ⟨Z1, h1, fun b _ h _ => (h2 b h).2⟩
 exact ⟨Z2, h3, fun b _ h _ => (h4 b h).2⟩
 omega
theorem zs8 {C : Cx} : ∀ (l : List D) (b o s : Nat), elems C l b o s ↔ ∀ i (hi : i < l.length), ∃ v, rep C l[i] v /\ v.cells.size = s /\ v.cells.toList.all (·.oneCell') = true /\ C.w.rangeAt b (o + i * s) v.cells.toList
 | [], b, o, s => by simp only [elems]; exact ⟨fun _ i hi => by simp at hi, fun _ => trivial⟩
 | d :: ds, b, o, s => by
  simp only [elems]
  rw [zs8 ds b (o + s) s]
  constructor
  rintro ⟨h1, h2⟩ i hi
  cases i with
  | zero => simpa using h1
  | succ i =>
   have := h2 i (by simpa using hi)
   rw [show o + (i + 1) * s = o + s + i * s by rw [Nat.succ_mul]; omega]
   simpa using this
  intro h
  refine ⟨?_, fun i hi => ?_⟩
  have h0 := h 0 (by simp)
  rw [Nat.zero_mul, Nat.add_zero] at h0
  exact h0
  have := h (i + 1) (by simpa using hi)
  rw [show o + (i + 1) * s = o + s + i * s by rw [Nat.succ_mul]; omega] at this
  simpa using this
theorem zei {w : World} {b o : Nat} {cs : Array Value} {T : TypeId} {fz : Nat × Nat} {l : List Value} (h : w.heap[b]? = some (.cells cs T fz)) : w.rangeAt b o l ↔ ∀ j v, l[j]? = some v -> cs[o + j]? = some v := by
 unfold World.rangeAt
 simp [World.cell?, h]
theorem ya0u {C : Cx} {d : D} {v : Value} {off : Nat} {new : List D} {nv : List Value} (h : rep C d v) (hn : reps C new nv) (hfit : off + new.length <= d.cells.length) (h0 : new ≠ []) (h1 : nv.all (·.oneCell') = true) :
  ∃ v', rep C (zzi d off new) v' /\ v'.cells.toList = v.cells.toList.take off ++ nv ++ v.cells.toList.drop (off + nv.length) := by
 have hl := zdc _ _ hn
 have hlp : 0 < new.length := List.length_pos_iff.2 h0
 by_cases ha : ∃ l, d = .agg l
 obtain ⟨l, rfl⟩ := ha
 simp only [rep] at h
 obtain ⟨cs, rfl, h⟩ := h
 refine ⟨.agg (cs.take off ++ nv ++ cs.drop (off + nv.length)).toArray, ?_, by simp [Value.cells]⟩
 simp only [zzi, rep]
 exact ⟨_, rfl, znk h hn⟩
 have hne : d.cells ≠ [] := by intro e; rw [e, zac] at hfit; omega
 have hc : d.cells = [d] := by cases d <;> first | exact absurd ⟨_, rfl⟩ ha | rfl | exact absurd rfl hne
 rw [hc] at hfit
 simp only [List.length_singleton] at hfit
 have hlen1 : new.length = 1 := by omega
 have hoff : off = 0 := by omega
 subst hoff
 obtain ⟨d0, rfl⟩ := List.length_eq_one_iff.1 hlen1
 simp only [reps] at hn
 obtain ⟨u, us, rfl, hd0, rfl⟩ := hn
 refine ⟨u, ?_, ?_⟩
 cases d <;> first | exact absurd ⟨_, rfl⟩ ha | exact hd0
 have hu : u.cells = #[u] := by
  simp only [List.all_cons, List.all_nil, Bool.and_true] at h1
  cases u <;> first | rfl | simp [Value.oneCell'] at h1
 have hs := zhd h hne
 rw [hc] at hs
 have hv : v.cells.toList.length = 1 := by simpa using hs
 rw [hu]
 simp only [List.take_zero, zai, List.length_singleton, Nat.zero_add]
 rw [zab (by omega)]
 simp
theorem zx0 {l : List D} {i : Nat} (h : i < l.length) : nth l i = l[i] := by
 unfold nth; simp [h]
theorem zni {l : List D} {i : Nat} {d : D} : (setN l i d).length = l.length := by
 unfold setN; simp
theorem ya2z {l : List D} {i j : Nat} {d : D} (h : j < (setN l i d).length) : (setN l i d)[j] = if i = j then d else l[j]'(by rwa [zni] at h) := by
 unfold setN at h ⊢
 simp [List.getElem_set]
theorem zxa {C C' : Cx} {items : List D} {b s i off : Nat} {cs : Array Value} {T : TypeId} {new : List D} {nv : List Value} (hle : C.Le C') (hel : elems C items b 0 s) (hblk : C.w.heap[b]? = some (.cells cs T (0, 0))) (hi : i < items.length)
  (hn : reps C' new nv) (hfit : off + new.length <= (nth items i).cells.length) (h0 : new ≠ []) (h1 : nv.all (·.oneCell') = true)
  (hblk' : C'.w.heap[b]? = some (.cells (cs.toList.take (i * s + off) ++ nv ++ cs.toList.drop (i * s + off + nv.length)).toArray T (0, 0))) :
  elems C' (setN items i (zzi (nth items i) off new)) b 0 s := by
 rw [zs8] at hel ⊢
 intro j hj
 rw [ya2z hj]
 rw [zni] at hj
 have hl := zdc _ _ hn
 obtain ⟨vi, gi1, gi2, gi3, gi4⟩ := hel i hi
 have hdl : (nth items i).cells ≠ [] := by intro e; rw [e, zac] at hfit; have := List.length_pos_iff.2 h0; omega
 have hsz := zhd (by rw [zx0 hi]; exact gi1 : rep C (nth items i) vi) hdl
 by_cases e : i = j
 subst e
 simp only [if_true]
 obtain ⟨v', k1, k2⟩ := ya0u (C := C') (zew hle _ _ (by rw [zx0 hi]; exact gi1 : rep C (nth items i) vi)) hn hfit h0 h1
 refine ⟨v', k1, ?_, ?_, ?_⟩
 rw [<- Array.length_toList, k2]
 simp; omega
 rw [k2]
 simp only [List.all_append, h1, Bool.and_true, za0]
 exact ⟨List.all_eq_true.2 fun z hz => List.all_eq_true.1 gi3 z (List.mem_of_mem_take hz), List.all_eq_true.2 fun z hz => List.all_eq_true.1 gi3 z (List.mem_of_mem_drop hz)⟩
 rw [zei hblk'] 
 rw [zei hblk] at gi4
 intro k u hk
 rw [k2] at hk
 have hcsz : ∀ k, k < s -> i * s + k < cs.size := by
  intro k hk
  have := gi4 k _ (List.getElem?_eq_getElem (by simp; omega))
  simp only [Nat.zero_add] at this
  exact (Array.getElem?_eq_some_iff.1 this).1
 have hlast := hcsz (off + nv.length - 1) (by have := List.length_pos_iff.2 h0; omega)
 simp only [Nat.zero_add]
 rw [List.getElem?_toArray]
 rcases Nat.lt_or_ge k off with h | h
 rw [List.append_assoc, List.getElem?_append_left (by simp; omega)] at hk
 rw [List.append_assoc, List.getElem?_append_left (by simp; omega)]
 rw [List.getElem?_take] at hk ⊢
 simp only [h, if_true] at hk
 simp only [show i * s + k < i * s + off by omega, if_true]
 have := gi4 k u hk
 simpa using this
 rcases Nat.lt_or_ge k (off + nv.length) with h' | h'
 rw [List.append_assoc, List.getElem?_append_right (by simp; omega), List.getElem?_append_left (by simp; omega)] at hk
 rw [List.append_assoc, List.getElem?_append_right (by simp; omega), List.getElem?_append_left (by simp; omega)]
 rw [<- hk]
 congr 1
 simp
 omega
 rw [List.getElem?_append_right (by simp; omega)] at hk
 rw [List.getElem?_append_right (by simp; omega)]
 rw [List.getElem?_drop] at hk ⊢
 have hl2 : (List.take off vi.cells.toList ++ nv).length = off + nv.length := by simp; omega
 have hl3 : (List.take (i * s + off) cs.toList ++ nv).length = i * s + off + nv.length := by simp; omega
 rw [hl2, show off + nv.length + (k - (off + nv.length)) = k by omega] at hk
 rw [hl3, show i * s + off + nv.length + (i * s + k - (i * s + off + nv.length)) = i * s + k by omega]
 have := gi4 k u hk
 simpa using this
 simp only [e, if_false]
 obtain ⟨v, g1, g2, g3, g4⟩ := hel j hj
 refine ⟨v, zew hle _ _ g1, g2, g3, ?_⟩
 rw [zei hblk']
 rw [zei hblk] at g4
 intro k u hk
 have hks : k < s := by
  have := (List.getElem?_eq_some_iff.1 hk).1
  simp at this; omega
 have hg := g4 k u hk
 simp only [Nat.zero_add] at hg ⊢
 have hlt : j * s + k < cs.size := (Array.getElem?_eq_some_iff.1 hg).1
 have hoff : off + nv.length <= s := by omega
 rw [List.getElem?_toArray]
 rw [zei hblk] at gi4
 have hcsz : ∀ k, k < s -> i * s + k < cs.size := by
  intro k hk
  have := gi4 k _ (List.getElem?_eq_getElem (by simp; omega))
  simp only [Nat.zero_add] at this
  exact (Array.getElem?_eq_some_iff.1 this).1
 have hlast := hcsz (off + nv.length - 1) (by have := List.length_pos_iff.2 h0; omega)
 rcases Nat.lt_or_gt_of_ne e with h | h
 have : (i + 1) * s <= j * s := Nat.mul_le_mul_right _ h
 rw [Nat.succ_mul] at this
 have hl3 : (List.take (i * s + off) cs.toList ++ nv).length = i * s + off + nv.length := by
  have := List.length_pos_iff.2 h0
  simp; omega
 rw [List.getElem?_append_right (by rw [hl3]; omega), List.getElem?_drop, hl3, show i * s + off + nv.length + (j * s + k - (i * s + off + nv.length)) = j * s + k by omega]
 simpa using hg
 have : (j + 1) * s <= i * s := Nat.mul_le_mul_right _ h
 rw [Nat.succ_mul] at this
 rw [List.append_assoc, List.getElem?_append_left (by simp; omega), List.getElem?_take]
 simp only [show j * s + k < i * s + off by omega, if_true]
 simpa using hg
section
variable {P : Program} {E : En} {n : Nat} {F : FrS} {a : Act} {w : World} {g : Gh} (hR : Rel E n F a w g)
include hR
theorem zxc {o : Oper} {t : TypeId} {ti : TI} {x y : Operand} {id s i off e : Nat} {p : Bool} {items : List D} {d : D} (ho : o.op = .store t x y) (ht : zd0 P t ti = true)
  (hx : rep (cx w g F.hp) (.eptr id s i off) (a.eval x)) (hy : rep (cx w g F.hp) d (a.eval y)) (hb : F.hp id = some (.arr e s p items)) (hl : d.cells.length = ti.size) (hi : i < items.length) (hfit : off + ti.size <= (nth items i).cells.length) (h1 : d.cells.all oneD = true)
  (hne : ti.size ≠ 0) : ze2 P E n a o (F.eff [(id, some (.arr e s (p && (D.idsL d.cells).isEmpty) (setN items i (zzi (nth items i) off d.cells))))] (0, 0)) .undef w := by
 simp only [rep] at hx
 obtain ⟨_, hs0, b, o', hσ, he⟩ := hx
 rcases hR.mem.hd id _ hb with ⟨rfl, _⟩ | ⟨b', cs, hσ', hblk, hsz, hel⟩
 simp at hi
 have e' := hσ'.symm.trans hσ
 simp only [za3, za6] at e'
 obtain ⟨rfl, rfl⟩ := e'
 have hvs : (a.eval y).cells.size = d.cells.length := zhd hy (by intro e; rw [e] at hl; simp at hl; omega)
 have hvr := zkv hy hvs.symm
 have hv1 := zkr hvr h1
 have hblk0 : w.heap[b']? = some (.cells cs e (0, 0)) := hblk
 obtain ⟨vi, gi1, gi2, gi3, gi4⟩ := (zs8 _ _ _ _).1 hel i hi
 have hdne : (nth items i).cells ≠ [] := by intro e; rw [e] at hfit; simp at hfit; omega
 have hsi := zhd (by rw [zx0 hi]; exact gi1 : rep _ (nth items i) vi) hdne
 have hfits : i * s + off + (a.eval y).cells.size <= cs.size := by
  have h2 : items.length * s <= cs.size := hsz
  have h3 : (i + 1) * s <= items.length * s := Nat.mul_le_mul_right _ hi
  rw [Nat.succ_mul] at h3
  omega
 have hst : (storeVar t ⟨b', 0 + i * s + off, none⟩ (a.eval y)).run P w = .ok () (w.setRow b' (cs.toList.take (i * s + off) ++ (a.eval y).cells.toList ++ cs.toList.drop (i * s + off + (a.eval y).cells.size)).toArray) := by
  have := zpw (P := P) (v := a.eval y) (off := i * s + off) ht (by omega) hblk0 (by omega) hv1
  rw [Nat.zero_add]; exact this
 have hszz : (cs.toList.take (i * s + off) ++ (a.eval y).cells.toList ++ cs.toList.drop (i * s + off + (a.eval y).cells.size)).toArray.size = cs.size := by simp; omega
 refine ⟨undef, _, g, .inr ⟨?_, rfl⟩, by simp only [rep], Rel.wrote hR (by rw [hb]; simp) hσ' (zi4 w b' cs _ e _ hblk0 hszz) ?_⟩
 unfold execOp
 simp only [ho, he, Instr.storeAt, Instr.sureAddr, pure_bind, Sem.run_bind, hst, Result.andThen_ok, Sem.run_pure]
 intro C hC hle hrf hσC
 have hblkC : C.w.heap[b']? = some (.cells (cs.toList.take (i * s + off) ++ (a.eval y).cells.toList ++ cs.toList.drop (i * s + off + (a.eval y).cells.size)).toArray e (0, 0)) := by subst hC; exact setRow_heap w b' cs _ e _ hblk0
 refine .inr ⟨b', _, hσC, hblkC, ?_, ?_⟩
 rw [hszz, zni]; exact hsz
 refine zxa (zph hle rfl _ _ (by cases p <;> simp)) hel hblk hi (nv := (a.eval y).cells.toList) ?_ (by omega) (by intro e; rw [e] at hl; simp at hl; omega) hv1 (by simpa using hblkC)
 cases hids : (p && (D.idsL d.cells).isEmpty)
 simpa [<- hrf] using zgv hle _ _ hvr
 simp only [za0, List.isEmpty_iff] at hids
 exact zjh _ _ hids.2 (zgv hle _ _ hvr)
end
end Go.Tm

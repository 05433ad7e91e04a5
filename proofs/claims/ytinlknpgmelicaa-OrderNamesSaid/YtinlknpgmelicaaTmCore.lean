/- Own data (D), what a value means in a world (rep), own memory (Mem, Rel), the frame (Keep). -/
import Derived.WalkKit
import Derived.Laws.IdiomCopy
import Derived.Deep.MidRow
namespace Go.Tm

/-! ## Data -/
inductive D where
  | bool (b : Bool)
  | int (k : IntKind) (n : Int)
  | str (l : List UInt8)
  | agg (l : List D)
  | imm (s : Nat) (l : List D) (c : Nat)
  | ref (id s off len : Nat) (cap : Option Nat)
  | ptr (id off : Nat)
  | eptr (id s i off : Nat)
  | iptr (m : Nat) (l : List D)
  | nilptr
  | tuple (l : List D)
  | fn (f : Fn) (caps : List D)
  | nilfn
  | iface (t : TypeId) (d : D)
  | nilIface
  | mref (id : Nat)
  | nilmap
  | when (c : Bool) (d : D)
  | undef
  deriving Inhabited

/-- own memory: a variable's cells; an array's elements (p: none of them refers to own memory); a map's entries -/
inductive Blk where
  | box (cells : List D)
  | arr (e s : Nat) (p : Bool) (items : List D)
  | map (es : List (D × D))

def D.cells : D → List D
  | .agg l => l
  | .tuple _ => []
  | .when _ _ => []
  | .undef => []
  | d => [d]

/-- In what memory a datum is read: the world, where the own blocks lie, which blocks are own (and may be written), where immutable memory without a mark lies, the zones of the marks (none: let go), whether marks and references may occur. -/
structure Cx where
  w : World
  σ : Nat → Option (Nat × Nat)
  M : Nat → Prop
  Z : Nat → Prop
  zn : Nat → Option (Nat → Prop)
  fl : Bool
  rf : Bool

abbrev Cx.noref (C : Cx) : Cx := { C with rf := false }
/-- where what lies in a zone is read -/
def Cx.at (C : Cx) (Z : Nat → Prop) : Cx := { C with rf := false, fl := false, Z := Z }
/-- a mark's zone -/
def Cx.zone (C : Cx) (m : Nat) : Option (Nat → Prop) := if m = 0 then some C.Z else C.zn m

mutual
def rep (C : Cx) : D → Value → Prop
  | .bool b, v => v = .bool b
  | .int k n, v => v = .int k n ∧ k.min ≤ n ∧ n ≤ k.max
  | .str l, v => v = .string ⟨l.toArray⟩ ∧ (l.length : Int) ≤ 9223372036854775807
  | .agg l, v => ∃ cs : List Value, v = .agg cs.toArray ∧ reps C l cs
  | .imm s l c, v => ∃ a cap, v = .slice a l.length cap ∧ l.length ≤ cap ∧ (cap : Int) ≤ 9223372036854775807 ∧ (c % 8 = 0 → a = none) ∧ (c % 8 = 1 ∨ c % 8 = 2 → a ≠ none) ∧ (c % 8 ≤ 1 ∨ c % 8 = 3 → cap = l.length) ∧ (a = none → cap = 0) ∧ (0 < c / 8 → C.fl = true) ∧
      (l = [] ∨ ∀ Z, C.zone (c / 8) = some Z → ∃ a0, a = some a0 ∧ a0.spot = none ∧ ¬ C.M a0.block ∧ Z a0.block ∧ a0.block < C.w.heap.size ∧ elems (C.at Z) l a0.block a0.off s)
  | .ref id s off len oc, v => C.rf = true ∧ ∃ a cap, v = .slice a len cap ∧ len ≤ cap ∧ (cap : Int) ≤ 9223372036854775807 ∧ (a = none → cap = 0) ∧ ((∀ c, oc = some c → cap = c) ∧ (oc = none → ∃ b T n, C.σ id = some (b, 0) ∧ C.w.shape? b = some (T, n) ∧ off * s + cap * s = n)) ∧
      (cap = 0 ∨ ∃ b T n, C.σ id = some (b, 0) ∧ a = some ⟨b, off * s, none⟩ ∧ C.w.shape? b = some (T, n) ∧ off * s + cap * s ≤ n)
  | .ptr id off, v => C.rf = true ∧ ∃ b o, C.σ id = some (b, o) ∧ v = .pointer (some ⟨b, o + off, none⟩)
  | .eptr id s i off, v => C.rf = true ∧ s ≠ 0 ∧ ∃ b o, C.σ id = some (b, o) ∧ v = .pointer (some ⟨b, o + i * s + off, none⟩)
  | .iptr m l, v => ∃ a0, v = .pointer (some a0) ∧ a0.spot = none ∧ (0 < m → C.fl = true) ∧ (l = [] ∨ ∀ Z, C.zone m = some Z → ¬ C.M a0.block ∧ Z a0.block ∧ a0.block < C.w.heap.size ∧ cels (C.at Z) l a0.block a0.off)
  | .nilptr, v => v = .pointer none
  | .tuple l, v => ∃ vs : List Value, v = .tuple vs.toArray ∧ reps C l vs
  | .fn f caps, v => ∃ cv : List Value, v = .func f #[] cv.toArray ∧ reps C caps cv
  | .nilfn, v => v = .nilFunc
  | .iface t d, v => ∃ x, v = .iface t x ∧ rep C d x
  | .nilIface, v => v = .nilIface
  | .mref id, v => C.rf = true ∧ ∃ b o, C.σ id = some (b, o) ∧ v = .map (some b)
  | .nilmap, v => v = .map none
  | .when c d, v => (c = true → rep C d v) ∧ (c = false → v = undef)
  | .undef, _ => True
def reps (C : Cx) : List D → List Value → Prop
  | [], vs => vs = []
  | d :: ds, vs => ∃ v vs', vs = v :: vs' ∧ rep C d v ∧ reps C ds vs'
def elems (C : Cx) : List D → Nat → Nat → Nat → Prop
  | [], _, _, _ => True
  | d :: ds, b, o, s => (∃ v, rep C d v ∧ v.cells.size = s ∧ v.cells.toList.all (·.oneCell') = true ∧ C.w.rangeAt b o v.cells.toList) ∧ elems C ds b (o + s) s
def cels (C : Cx) : List D → Nat → Nat → Prop
  | [], _, _ => True
  | d :: ds, b, o => (∃ v, rep C d v ∧ C.w.cell? ⟨b, o, none⟩ = some v) ∧ cels C ds b (o + 1)
end

theorem rep_int {C : Cx} {k n v} : rep C (.int k n) v ↔ v = .int k n ∧ k.min ≤ n ∧ n ≤ k.max := by simp only [rep]
theorem rep_bool {C : Cx} {b v} : rep C (.bool b) v ↔ v = .bool b := by simp only [rep]
theorem reps_nil {C : Cx} {vs} : reps C [] vs ↔ vs = [] := by simp only [reps]
theorem reps_cons {C : Cx} {d ds vs} : reps C (d :: ds) vs ↔ ∃ v vs', vs = v :: vs' ∧ rep C d v ∧ reps C ds vs' := by simp only [reps]
theorem elems_cons {C : Cx} {d ds b o s} : elems C (d :: ds) b o s ↔ (∃ v, rep C d v ∧ v.cells.size = s ∧ v.cells.toList.all (·.oneCell') = true ∧ C.w.rangeAt b o v.cells.toList) ∧ elems C ds b (o + s) s := by simp only [elems]

/-! ### Ids -/
mutual
def D.ids : D → List Nat
  | .agg l => D.idsL l
  | .ref id _ _ _ _ => [id]
  | .ptr id _ => [id]
  | .eptr id _ _ _ => [id]
  | .mref id => [id]
  | .tuple l => D.idsL l
  | .fn _ l => D.idsL l
  | .iface _ d => d.ids
  | .when _ d => d.ids
  | _ => []
def D.idsL : List D → List Nat
  | [] => []
  | d :: ds => d.ids ++ D.idsL ds
end

/-- From one reading to another: what is not own stays, the shapes stay, the places that are known stay. -/
structure Cx.Le (C C' : Cx) : Prop where
  blk : ∀ m, (m = 0 ∨ C.fl = true) → ∀ Z', C'.zone m = some Z' → ∃ Z, C.zone m = some Z ∧ ∀ b, ¬ C.M b → Z b → b < C.w.heap.size → ¬ C'.M b ∧ Z' b ∧ C'.w.heap[b]? = C.w.heap[b]?
  shp : ∀ b, b < C.w.heap.size → C'.w.shape? b = C.w.shape? b
  ff : C.fl = true → C'.fl = true
  rf : C.rf = true → C'.rf = true
  sg : C.rf = true → ∀ id, C.σ id ≠ none → C'.σ id = C.σ id

theorem Cx.Le.noref {C C' : Cx} (h : C.Le C') : C.noref.Le C'.noref := ⟨h.blk, h.shp, h.ff, fun x => x, (fun x => by cases x)⟩
theorem Cx.Le.inner {C C' : Cx} (h : ∀ b, b < C.w.heap.size → C'.w.shape? b = C.w.shape? b) {Z Z' : Nat → Prop} (hz : ∀ b, ¬ C.M b → Z b → b < C.w.heap.size → ¬ C'.M b ∧ Z' b ∧ C'.w.heap[b]? = C.w.heap[b]?) : (C.at Z).Le (C'.at Z') := by
  refine ⟨fun m hm Z'' hZ => ?_, h, (fun x => by cases x), (fun x => by cases x), (fun x => by cases x)⟩
  rcases hm with rfl | hm
  · simp only [Cx.zone, Cx.at, if_true, Option.some.injEq] at hZ ⊢
    subst hZ
    exact ⟨Z, rfl, hz⟩
  · cases hm
theorem Cx.Le.refl (C : Cx) : C.Le C := ⟨fun _ _ Z' h => ⟨Z', h, fun _ h1 h2 _ => ⟨h1, h2, rfl⟩⟩, fun _ _ => rfl, id, id, fun _ _ _ => rfl⟩
theorem Cx.Le.trans {A B C : Cx} (h : A.Le B) (k : B.Le C) (hs : A.w.heap.size ≤ B.w.heap.size) : A.Le C := by
  refine ⟨fun m hm Z' hZ => ?_, fun b hb => (k.shp b (by omega)).trans (h.shp b hb), fun x => k.ff (h.ff x), fun x => k.rf (h.rf x), fun x id hid => ?_⟩
  · obtain ⟨Z1, h1, h2⟩ := k.blk m (hm.imp_right h.ff) Z' hZ
    obtain ⟨Z2, h3, h4⟩ := h.blk m hm Z1 h1
    refine ⟨Z2, h3, fun b g1 g2 g3 => ?_⟩
    obtain ⟨e1, e2, e3⟩ := h4 b g1 g2 g3
    obtain ⟨f1, f2, f3⟩ := h2 b e1 e2 (by omega)
    exact ⟨f1, f2, f3.trans e3⟩
  · have := h.sg x id hid
    rw [k.sg (h.rf x) id (by rwa [this]), this]

theorem shape_lt {w : World} {b : Nat} {x} (h : w.shape? b = some x) : b < w.heap.size := by
  unfold World.shape? at h
  split at h
  · rename_i hb; exact (Array.getElem?_eq_some_iff.1 hb).1
  · simp at h

theorem range_lt {w : World} {b o : Nat} {l : List Value} (h : w.rangeAt b o l) (hl : l ≠ []) : b < w.heap.size := by
  cases l with
  | nil => exact absurd rfl hl
  | cons v l => exact World.block_lt_of_cell? _ _ (h 0 v rfl)

theorem range_of_block {w w' : World} {b o : Nat} {l : List Value} (h : w.rangeAt b o l) (hb : w'.heap[b]? = w.heap[b]?) : w'.rangeAt b o l := by
  intro j v hj
  have := h j v hj
  unfold World.cell? at *
  simp only [hb]
  exact this

theorem lt_of_blk {w w' : World} {b : Nat} (h : w'.heap[b]? = w.heap[b]?) (hb : b < w.heap.size) : b < w'.heap.size := by
  rw [Array.getElem?_eq_getElem hb] at h
  exact (Array.getElem?_eq_some_iff.1 h).1

mutual
theorem rep_le {C C' : Cx} (h : C.Le C') : ∀ (d : D) (v : Value), rep C d v → rep C' d v
  | .bool b, v, hr => by simpa only [rep] using hr
  | .int k n, v, hr => by simpa only [rep] using hr
  | .str l, v, hr => by simpa only [rep] using hr
  | .agg l, v, hr => by
    simp only [rep] at hr ⊢
    obtain ⟨cs, rfl, hc⟩ := hr
    exact ⟨cs, rfl, reps_le h l cs hc⟩
  | .imm s l c, v, hr => by
    simp only [rep] at hr ⊢
    obtain ⟨a, cap, rfl, h1, h2, h3, h4, h5, h6, hfl, h7⟩ := hr
    refine ⟨a, cap, rfl, h1, h2, h3, h4, h5, h6, fun x => h.ff (hfl x), ?_⟩
    rcases h7 with h7 | h7
    · exact .inl h7
    right
    intro Z' hZ'
    obtain ⟨Z, hZ, hz⟩ := h.blk (c / 8) (by rcases Nat.eq_zero_or_pos (c / 8) with e | e; exact .inl e; exact .inr (hfl e)) Z' hZ'
    obtain ⟨a0, ha, hs, hM, hlo, hb, he⟩ := h7 Z hZ
    obtain ⟨g1, g2, g3⟩ := hz _ hM hlo hb
    exact ⟨a0, ha, hs, g1, g2, lt_of_blk g3 hb, elems_le (C := C.at Z) (C' := C'.at Z') (Cx.Le.inner h.shp hz) l _ _ _ g3 he⟩
  | .ref id s off len oc, v, hr => by
    simp only [rep] at hr ⊢
    obtain ⟨h0, a, cap, rfl, h1, h2, h3, hoc, h4⟩ := hr
    refine ⟨h.rf h0, a, cap, rfl, h1, h2, h3, ⟨hoc.1, fun ho => by
      obtain ⟨b, T, n, hσ, hsh, hn⟩ := hoc.2 ho
      exact ⟨b, T, n, by rw [h.sg h0 id (by rw [hσ]; simp), hσ], by rw [h.shp _ (shape_lt hsh), hsh], hn⟩⟩, ?_⟩
    rcases h4 with h4 | ⟨b, T, n, hσ, ha, hsh, hn⟩
    · exact .inl h4
    · exact .inr ⟨b, T, n, by rw [h.sg h0 id (by rw [hσ]; simp), hσ], ha, by rw [h.shp _ (shape_lt hsh), hsh], hn⟩
  | .ptr id off, v, hr => by
    simp only [rep] at hr ⊢
    obtain ⟨h0, b, o, hσ, rfl⟩ := hr
    exact ⟨h.rf h0, b, o, by rw [h.sg h0 id (by rw [hσ]; simp), hσ], rfl⟩
  | .eptr id s i off, v, hr => by
    simp only [rep] at hr ⊢
    obtain ⟨h0, hs0, b, o, hσ, rfl⟩ := hr
    exact ⟨h.rf h0, hs0, b, o, by rw [h.sg h0 id (by rw [hσ]; simp), hσ], rfl⟩
  | .iptr m l, v, hr => by
    simp only [rep] at hr ⊢
    obtain ⟨a0, rfl, hs, hfl, hr⟩ := hr
    refine ⟨a0, rfl, hs, fun x => h.ff (hfl x), ?_⟩
    rcases hr with hr | hr
    · exact .inl hr
    right
    intro Z' hZ'
    obtain ⟨Z, hZ, hz⟩ := h.blk m (by rcases Nat.eq_zero_or_pos m with e | e; exact .inl e; exact .inr (hfl e)) Z' hZ'
    obtain ⟨hM, hlo, hb, he⟩ := hr Z hZ
    obtain ⟨g1, g2, g3⟩ := hz _ hM hlo hb
    exact ⟨g1, g2, lt_of_blk g3 hb, cels_le (C := C.at Z) (C' := C'.at Z') (Cx.Le.inner h.shp hz) l _ _ g3 he⟩
  | .nilptr, v, hr => by simpa only [rep] using hr
  | .tuple l, v, hr => by
    simp only [rep] at hr ⊢
    obtain ⟨cs, rfl, hc⟩ := hr
    exact ⟨cs, rfl, reps_le h l cs hc⟩
  | .fn f l, v, hr => by
    simp only [rep] at hr ⊢
    obtain ⟨cs, rfl, hc⟩ := hr
    exact ⟨cs, rfl, reps_le h l cs hc⟩
  | .nilfn, v, hr => by simpa only [rep] using hr
  | .iface t d, v, hr => by
    simp only [rep] at hr ⊢
    obtain ⟨x, rfl, hx⟩ := hr
    exact ⟨x, rfl, rep_le h d x hx⟩
  | .nilIface, v, hr => by simpa only [rep] using hr
  | .mref id, v, hr => by
    simp only [rep] at hr ⊢
    obtain ⟨h0, b, o, hσ, rfl⟩ := hr
    exact ⟨h.rf h0, b, o, by rw [h.sg h0 id (by rw [hσ]; simp), hσ], rfl⟩
  | .nilmap, v, hr => by simpa only [rep] using hr
  | .when c d, v, hr => by
    simp only [rep] at hr ⊢
    exact ⟨fun hc => rep_le h d v (hr.1 hc), hr.2⟩
  | .undef, v, _ => by simp only [rep]
theorem reps_le {C C' : Cx} (h : C.Le C') : ∀ (l : List D) (vs : List Value), reps C l vs → reps C' l vs
  | [], vs, hr => by simpa only [reps] using hr
  | d :: ds, vs, hr => by
    simp only [reps] at hr ⊢
    obtain ⟨v, vs', rfl, h1, h2⟩ := hr
    exact ⟨v, vs', rfl, rep_le h d v h1, reps_le h ds vs' h2⟩
theorem elems_le {C C' : Cx} (h : C.Le C') : ∀ (l : List D) (b o s : Nat), C'.w.heap[b]? = C.w.heap[b]? → elems C l b o s → elems C' l b o s
  | [], _, _, _, _, _ => by simp only [elems]
  | d :: ds, b, o, s, hb, hr => by
    simp only [elems] at hr ⊢
    obtain ⟨⟨v, h1, h2, h2', h3⟩, h4⟩ := hr
    exact ⟨⟨v, rep_le h d v h1, h2, h2', range_of_block h3 hb⟩, elems_le h ds b (o + s) s hb h4⟩
theorem cels_le {C C' : Cx} (h : C.Le C') : ∀ (l : List D) (b o : Nat), C'.w.heap[b]? = C.w.heap[b]? → cels C l b o → cels C' l b o
  | [], _, _, _, _ => by simp only [cels]
  | d :: ds, b, o, hb, hr => by
    simp only [cels] at hr ⊢
    obtain ⟨⟨v, h1, h3⟩, h4⟩ := hr
    refine ⟨⟨v, rep_le h d v h1, ?_⟩, cels_le h ds b (o + 1) hb h4⟩
    unfold World.cell? at *
    simp only [hb]
    exact h3
end

/-! ### Marks -/
mutual
/-- a datum without marks -/
def unf : D → D
  | .imm s l c => .imm s l (c % 8)
  | .iptr _ l => .iptr 0 l
  | .agg l => .agg (unfL l)
  | .tuple l => .tuple (unfL l)
  | .iface t d => .iface t (unf d)
  | .fn f l => .fn f (unfL l)
  | .when c d => .when c (unf d)
  | d => d
def unfL : List D → List D
  | [] => []
  | d :: ds => unf d :: unfL ds
end
mutual
/-- a datum without marks, out of a zone -/
def mkM (m : Nat) : D → D
  | .imm s l c => .imm s l (c % 8 + 8 * m)
  | .iptr _ l => .iptr m l
  | .agg l => .agg (mkML m l)
  | .tuple l => .tuple (mkML m l)
  | .iface t d => .iface t (mkM m d)
  | .fn f l => .fn f (mkML m l)
  | .when c d => .when c (mkM m d)
  | d => d
def mkML (m : Nat) : List D → List D
  | [] => []
  | d :: ds => mkM m d :: mkML m ds
end
mutual
/-- are all marks as asked? -/
def okM (q : Nat → Bool) : D → Bool
  | .imm _ l c => q (c / 8) || l.isEmpty
  | .iptr m _ => q m
  | .agg l => okML q l
  | .tuple l => okML q l
  | .iface _ d => okM q d
  | .fn _ l => okML q l
  | .when _ d => okM q d
  | _ => true
def okML (q : Nat → Bool) : List D → Bool
  | [] => true
  | d :: ds => okM q d && okML q ds
end
/-- all its immutable memory lies in a zone that lasts -/
def low3 (m : Nat) : Bool := Nat.blt m 3
/-- new memory -/
def new1 (m : Nat) : Bool := Nat.beq m 1

/-! ## States -/
structure FrS where
  rd : Nat → D
  hp : Nat → Option Blk
  /-- ids that were never used -/
  nu : Nat → Bool

/-- what stands behind ids and marks -/
structure Gh where
  σ : Nat → Option (Nat × Nat)
  Z : Nat → Prop
  zn : Nat → Option (Nat → Prop)

def ownB (g : Gh) (hp : Nat → Option Blk) (b : Nat) : Prop := ∃ id o, hp id ≠ none ∧ g.σ id = some (b, o)

def cx (w : World) (g : Gh) (hp : Nat → Option Blk) : Cx := ⟨w, g.σ, ownB g hp, g.Z, g.zn, true, true⟩

def entOk (C : Cx) (x : D × D) (e : MapEntry) : Prop := rep C x.1 e.key ∧ rep C x.2 e.val
def entsOk (C : Cx) : List (D × D) → List MapEntry → Prop
  | [], es => es = []
  | x :: xs, es => ∃ e es', es = e :: es' ∧ entOk C x e ∧ entsOk C xs es'

def holds (C : Cx) (id : Nat) : Blk → Prop
  | .box cells => ∃ b cs T, C.σ id = some (b, 0) ∧ C.w.heap[b]? = some (.cells cs T (0, 0)) ∧ reps C cells cs.toList ∧ cs.toList.all (·.oneCell') = true
  | .arr e s p items => (items = [] ∧ C.σ id = none) ∨ ∃ b cs, C.σ id = some (b, 0) ∧ C.w.heap[b]? = some (.cells cs e (0, 0)) ∧ items.length * s ≤ cs.size ∧ elems { C with rf := !p } items b 0 s
  | .map es => ∃ b ens clock, C.σ id = some (b, 0) ∧ C.w.heap[b]? = some (.map ens clock) ∧ entsOk C es ens.toList

/-- What was there stays, but for the blocks X; nothing goes. -/
structure Keep (X : Nat → Prop) (w w' : World) : Prop where
  os : w'.os = w.os
  tape : w'.tape = w.tape
  output : w'.output = w.output
  size : w.heap.size ≤ w'.heap.size
  block : ∀ k, k < w.heap.size → ¬ X k → w'.heap[k]? = w.heap[k]?
  shp : ∀ k, k < w.heap.size → w'.shape? k = w.shape? k

theorem shape_of_block {w w' : World} {b : Nat} (h : w'.heap[b]? = w.heap[b]?) : w'.shape? b = w.shape? b := by
  unfold World.shape?; rw [h]

theorem Keep.refl (X : Nat → Prop) (w : World) : Keep X w w := ⟨rfl, rfl, rfl, Nat.le_refl _, fun _ _ _ => rfl, fun _ _ => rfl⟩
theorem Keep.trans {X : Nat → Prop} {a b c : World} (h : Keep X a b) (k : Keep (fun i => X i ∨ a.heap.size ≤ i) b c) : Keep X a c :=
  ⟨k.os.trans h.os, k.tape.trans h.tape, k.output.trans h.output, Nat.le_trans h.size k.size,
   fun i hi hx => (k.block i (Nat.lt_of_lt_of_le hi h.size) (fun h1 => h1.elim hx (fun h2 => by omega))).trans (h.block i hi hx),
   fun i hi => (k.shp i (Nat.lt_of_lt_of_le hi h.size)).trans (h.shp i hi)⟩
theorem Keep.mono {X Y : Nat → Prop} {a b : World} (h : Keep X a b) (hxy : ∀ i, i < a.heap.size → X i → Y i) : Keep Y a b :=
  ⟨h.os, h.tape, h.output, h.size, fun k hk hy => h.block k hk fun hx => hy (hxy k hk hx), h.shp⟩
theorem Keep.below {w w' : World} (h : Keep (fun _ => False) w w') : Go.RowKit.Below w.heap.size w w' :=
  ⟨h.os, h.tape, h.output, h.size, fun k hk => h.block k hk id⟩
theorem Keep.of_below {X : Nat → Prop} {w w' : World} (h : Go.RowKit.Below w.heap.size w w') : Keep X w w' :=
  ⟨h.os, h.tape, h.output, h.size, fun k hk _ => h.block k hk, fun k hk => shape_of_block (h.block k hk)⟩
theorem Keep.drew {X : Nat → Prop} {a w : World} (h : Keep X a w) : Keep X a w.drew := ⟨h.os, h.tape, h.output, h.size, h.block, h.shp⟩

/-- what the zones are -/
structure Zones (fr : Nat) (g : Gh) (M : Nat → Prop) (sz : Nat) : Prop where
  z0 : ∀ b, sz ≤ b → g.Z b
  z1 : ∃ Z1, g.zn 1 = some Z1 ∧ (∀ b, Z1 b → fr ≤ b ∧ g.Z b) ∧ ∀ b, sz ≤ b → Z1 b
  z2 : ∃ Z2, g.zn 2 = some Z2 ∧ ∀ b, Z2 b → b < fr ∧ g.Z b
  zr : ∀ m Zm, 3 ≤ m → g.zn m = some Zm → ∀ b, Zm b → b < sz ∧ fr ≤ b ∧ g.Z b ∧ ¬ M b ∧ ∀ m' Zm', m' ≠ m → 3 ≤ m' → g.zn m' = some Zm' → ¬ Zm' b

/-- own memory as it is said -/
structure Mem (fr : Nat) (w : World) (g : Gh) (hp : Nat → Option Blk) (nu : Nat → Bool) : Prop where
  hd : ∀ id blk, hp id = some blk → holds (cx w g hp) id blk
  inj : ∀ id id' b o o', hp id ≠ none → hp id' ≠ none → g.σ id = some (b, o) → g.σ id' = some (b, o') → id = id'
  nw : ∀ id, nu id = true → g.σ id = none ∧ hp id = none
  zs : Zones fr g (ownB g hp) w.heap.size
  fl : fr ≤ w.heap.size

/-- what a function's run began with: the world, from where on memory is new, the blocks that may change, what stood behind ids and marks, the ids that it may use -/
structure En where
  w0 : World
  fr : Nat
  X : Nat → Prop
  g0 : Gh
  nu0 : Nat → Bool

structure Rel (E : En) (n : Nat) (F : FrS) (a : Act) (w : World) (g : Gh) : Prop where
  sz : n ≤ a.tmps.size
  df : a.defers = []
  rd : ∀ t, rep (cx w g F.hp) (F.rd t) (a.eval (.tmp t))
  mem : Mem E.fr w g F.hp F.nu
  base : ∀ id b o, F.hp id ≠ none → g.σ id = some (b, o) → E.w0.heap.size ≤ b ∨ E.X b
  keep : Keep E.X E.w0 w
  gz : g.Z = E.g0.Z ∧ g.zn = E.g0.zn
  gs : ∀ id, E.nu0 id = false → g.σ id = E.g0.σ id
  nu : ∀ id, F.nu id = true → E.nu0 id = true

theorem holds_lt {C : Cx} {id : Nat} {blk : Blk} (h : holds C id blk) {b o : Nat} (hs : C.σ id = some (b, o)) : b < C.w.heap.size ∧ o = 0 := by
  cases blk with
  | box cells =>
    obtain ⟨b1, cs, T, h1, h2, _⟩ := h
    have e := h1.symm.trans hs
    simp only [Option.some.injEq, Prod.mk.injEq] at e
    obtain ⟨rfl, rfl⟩ := e
    exact ⟨(Array.getElem?_eq_some_iff.1 h2).1, rfl⟩
  | arr e s p items =>
    rcases h with ⟨_, h1⟩ | ⟨b1, cs, h1, h2, _⟩
    · rw [hs] at h1; cases h1
    · have e := h1.symm.trans hs
      simp only [Option.some.injEq, Prod.mk.injEq] at e
      obtain ⟨rfl, rfl⟩ := e
      exact ⟨(Array.getElem?_eq_some_iff.1 h2).1, rfl⟩
  | map es =>
    obtain ⟨b1, ens, clock, h1, h2, _⟩ := h
    have e := h1.symm.trans hs
    simp only [Option.some.injEq, Prod.mk.injEq] at e
    obtain ⟨rfl, rfl⟩ := e
    exact ⟨(Array.getElem?_eq_some_iff.1 h2).1, rfl⟩

theorem Mem.own_lt {fr w g hp nu} (h : Mem fr w g hp nu) {b : Nat} (hb : ownB g hp b) : b < w.heap.size := by
  obtain ⟨id, o, h1, h2⟩ := hb
  obtain ⟨x, hx⟩ := Option.ne_none_iff_exists'.1 h1
  exact (holds_lt (C := cx w g hp) (h.hd id x hx) h2).1

/-! ## Effects -/
def getL {α : Type} : List (Nat × α) → Nat → Option α
  | [], _ => none
  | (a, x) :: r, t => bif Nat.beq a t then some x else getL r t

def effH (hp : Nat → Option Blk) (eff : List (Nat × Option Blk)) : Nat → Option Blk := fun id => match getL eff id with | some b => b | none => hp id
def effN (nu : Nat → Bool) (nw : Nat × Nat) : Nat → Bool := fun id => nu id && !(decide (nw.1 ≤ id) && decide (id < nw.2))

def FrS.eff (F : FrS) (eff : List (Nat × Option Blk)) (nw : Nat × Nat) : FrS := ⟨F.rd, effH F.hp eff, effN F.nu nw⟩

/-! ## Types -/
structure TI where
  kind : Nat
  size : Nat
  offs : List (Nat × Nat × Bool)
  zero : List D
  el : Nat
  esz : Nat
  eby : Nat
  eagg : Bool
  ik : Option IntKind
  eqs : Bool := false
  ezero : List D := []
  deriving Inhabited

/-- Is a type as its row in the table says? (kind: 1 one cell; 2 struct; 3 slice; 4 array; 5 string; 6 an integer; 7 interface; 8 bool; 9 map) -/
def isRowT (P : Program) (t : TypeId) : Bool :=
  match P.underlying t with
  | some (.struct _) | some (.array _ _) => true
  | _ => false

def zeroChk : List D → List Value → Bool
  | [], [] => true
  | .bool b :: ds, .bool b' :: vs => b == b' && zeroChk ds vs
  | .int k n :: ds, .int k' n' :: vs => decide (k = k') && n == n' && decide (k.min ≤ n) && decide (n ≤ k.max) && zeroChk ds vs
  | .str [] :: ds, .string s :: vs => s.size == 0 && zeroChk ds vs
  | .imm _ [] 0 :: ds, .slice none 0 0 :: vs => zeroChk ds vs
  | .nilptr :: ds, .pointer none :: vs => zeroChk ds vs
  | .nilfn :: ds, .nilFunc :: vs => zeroChk ds vs
  | .nilIface :: ds, .nilIface :: vs => zeroChk ds vs
  | .nilmap :: ds, .map none :: vs => zeroChk ds vs
  | _, _ => false

def isAggV : Value → Bool
  | .agg _ => true
  | _ => false

def tiChk (P : Program) (t : TypeId) (ti : TI) : Bool :=
  match P.info? t, P.underlying t with
  | some i, some d =>
    i.size == ti.size && (match i.zero with | some z => zeroChk ti.zero z.cells.toList | none => false) &&
    match d with
    | .struct fs => ti.kind == 2 && ti.offs == fs.toList.map (fun f => (f.offset, P.cellsOf f.type, isRowT P f.type)) && fs.toList.all (fun f => (P.info? f.type).isSome && (P.underlying f.type).isSome && P.cellsOf f.type != 0)
    | .slice e => ti.kind == 3 && (match P.info? e with | some j => j.size == ti.esz && j.bytes == ti.eby && j.bytes != 0 && j.size != 0 && (match j.zero with | some z => z.cells.size == j.size && zeroChk ti.ezero z.cells.toList && isAggV z == ti.eagg | none => false) | none => false) && ti.el == e && (isRowT P e == ti.eagg)
    | .array _ _ => false
    | .string => ti.kind == 5
    | .int k => ti.kind == 6 && ti.ik == some k
    | .pointer _ | .func _ _ _ => ti.kind == 1
    | .bool => ti.kind == 8
    | .interface _ => ti.kind == 7
    | .map k v => ti.kind == 9 && ti.el == k && (match P.underlying k with | some (.int _) => true | some .string => true | _ => false) && (match P.info? v with | some j => j.size == ti.esz && (match j.zero with | some z => zeroChk ti.ezero z.cells.toList && isAggV z == ti.eagg | none => false) | none => false) && (isRowT P v == ti.eagg)
    | _ => false
  | _, _ => false

def fieldsEq (P : Program) : Nat → List Field → List D → Bool
  | _, [], [] => true
  | j, f :: fs, z :: zs => Nat.beq f.offset j && Nat.beq (P.cellsOf f.type) 1 && f.name != "_" && (match P.underlying f.type, z with
      | some (.int k), .int k' _ => decide (k = k')
      | some .string, .str _ => true
      | some .bool, .bool _ => true
      | _, _ => false) && fieldsEq P (j + 1) fs zs
  | _, _, _ => false

def aggEq : List D → List D → List D → Option Bool
  | [], [], [] => some true
  | .int k _ :: z, .int k1 a :: l, .int k2 b :: l' => bif decide (k1 = k) && decide (k2 = k) then (match aggEq z l l' with | some r => some ((a == b) && r) | none => none) else none
  | .str _ :: z, .str a :: l, .str b :: l' => match aggEq z l l' with | some r => some ((a == b) && r) | none => none
  | .bool _ :: z, .bool a :: l, .bool b :: l' => match aggEq z l l' with | some r => some ((a == b) && r) | none => none
  | _, _, _ => none

/-- Is a type that says so comparable, cell by cell? -/
def eqsChk (P : Program) (t : TypeId) (ti : TI) : Bool :=
  match P.underlying t with
  | some (.struct fs) => P.keyTypeAt 3 t && !P.eqGuardType P.depth t && fieldsEq P 0 fs.toList ti.zero && P.cellsOf t == fs.size
  | _ => false

end Go.Tm

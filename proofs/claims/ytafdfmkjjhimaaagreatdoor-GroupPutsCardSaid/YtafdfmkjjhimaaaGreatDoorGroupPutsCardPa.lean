/- Texts of the proof. -/
import Derived.WalkKit
import Derived.Laws.IdiomCopy
import Derived.Deep.MidRow
import Derived.RangeFuncRecord
import Derived.WideShapes
theorem za0 (a b : Bool) : ((a && b) = true) = (a = true /\ b = true) := Bool.and_eq_true a b
theorem zas (a b : Bool) : ((a || b) = true) = (a = true \/ b = true) := Bool.or_eq_true a b
theorem zan : (false = true) = False := Bool.false_eq_true
theorem za1 {α β : Type} (a : α) (f : α -> Option β) : (some a).bind f = f a := rfl
theorem za3 {α : Type} (a b : α) : (some a = some b) = (a = b) := Option.some.injEq a b
theorem za6 {α β : Type} (a : α) (b : β) (c : α) (d : β) : ((a, b) = (c, d)) = (a = c /\ b = d) := Prod.mk.injEq a b c d
theorem za4 (n : Nat) : n <= n := Nat.le_refl n
theorem zag {α : Type} (l : List α) : l ++ [] = l := List.append_nil l
theorem zai {α : Type} (l : List α) : [] ++ l = l := rfl
theorem zal {α : Type} {a : α} {l k : List α} : (a :: l) ++ k = a :: (l ++ k) := rfl
theorem za5 {α : Type} {a : α} {l : List α} : (a :: l).length = l.length + 1 := rfl
theorem zac {α : Type} : ([] : List α).length = 0 := rfl
theorem zae {α : Type} {l k : List α} : (l ++ k).length = l.length + k.length := List.length_append
theorem zah {α β : Type} {f : α -> β} {a : α} {l : List α} : (a :: l).map f = f a :: l.map f := rfl
theorem za7 {α : Type} {i : Nat} {l : List α} (h : i < l.length) : l.drop i = l[i] :: l.drop (i + 1) := List.drop_eq_getElem_cons h
theorem zab {α : Type} {i : Nat} {l : List α} (h : l.length <= i) : l.drop i = [] := List.drop_of_length_le h
theorem zad {α : Type} {l : List α} (h : l.length = 0) : l = [] := List.eq_nil_of_length_eq_zero h
theorem zaj {α : Type} {a : α} (b : α) {l : List α} (h : a ∈ l) : a ∈ b :: l := List.mem_cons_of_mem b h
theorem zam {n m : Nat} (h : n <= m) : Nat.ble n m = true := Nat.ble_eq_true_of_le h
theorem zar {n m k : Nat} (h : n <= m) (i : m <= k) : n <= k := Nat.le_trans h i
namespace Go.Tm
theorem lb {a b : Nat} (h : Nat.ble a b = true) : a <= b := Nat.le_of_ble_eq_true h
theorem sj {α : Type} {a b : α} (h : some a = some b) : a = b := Option.some.inj h
theorem ai {a b : Prop} (x : a) (y : b) : a /\ b := ⟨x, y⟩
theorem nb {a b : Nat} (h : Nat.beq a b = true) : a = b := Nat.eq_of_beq_eq_true h
end Go.Tm
namespace Go.Tm
inductive D where
 | bool (b : Bool)
 | int (k : IntKind) (n : Int)
 | str (l : List UInt8)
 | agg (l : List D)
 | imm (s : Nat) (l : List D) (c : Nat)
 | ref (id s off len : Nat) (cap : Option Nat)
 | ptr (id off : Nat)
 | eptr (id s i off : Nat)
 | iptr (m : Nat) (l : List D)
 | nilptr
 | tuple (l : List D)
 | fn (f : Fn) (caps : List D)
 | nilfn
 | iface (t : TypeId) (d : D)
 | nilIface
 | mref (id : Nat)
 | nilmap
 | when (c : Bool) (d : D)
 | sc
 | undef
 deriving Inhabited
inductive Blk where
 | box (cells : List D)
 | arr (e s : Nat) (p : Bool) (items : List D)
 | map (es : List (D × D))
def D.cells : D -> List D
 | .agg l => l
 | .tuple _ => []
 | .when _ _ => []
 | .undef => []
 | d => [d]
structure Cx where
 w : World
 σ : Nat -> Option (Nat × Nat)
 M : Nat -> Prop
 Z : Nat -> Prop
 zn : Nat -> Option (Nat -> Prop)
 fl : Bool
 rf : Bool
def capK (c : Nat) : Bool := Nat.ble c 9223372036854775807
abbrev Cx.noref (C : Cx) : Cx := { C with rf := false }
def Cx.at (C : Cx) (Z : Nat -> Prop) : Cx := { C with rf := false, fl := false, Z := Z }
def Cx.zone (C : Cx) (m : Nat) : Option (Nat -> Prop) := if m = 0 then some C.Z else C.zn m
def Unfz (w : World) (b : Nat) : Prop := ∃ cs T, w.heap[b]? = some (.cells cs T (0, 0))
def inW (w : World) (k b : Nat) : Prop := b < w.heap.size /\ (k = 5 -> Unfz w b)
theorem inW.any {w : World} {k k' b : Nat} (h : inW w k b) (hk : k' ≠ 5) : inW w k' b := ⟨h.1, fun e => absurd e hk⟩
def scal : Value -> Bool
 | .bool _ | .int _ _ | .string _ => true
 | _ => false
def fnV (f : Fn) (cv : List Value) : Value := match f with
 | .yield k => .func (.func k) cv.toArray #[]
 | f => .func f #[] cv.toArray
theorem ya5h (f : Fn) (cv : List Value) : (fnV f cv).oneCell' = true := by cases f <;> rfl
theorem zmi (f : Fn) (cv : List Value) : (fnV f cv).cells = #[fnV f cv] := by cases f <;> rfl
mutual
def rep (C : Cx) : D -> Value -> Prop
 | .bool b, v => v = .bool b
 | .int k n, v => v = .int k n /\ k.min <= n /\ n <= k.max
 | .str l, v => v = .string ⟨l.toArray⟩ /\ (l.length : Int) <= 9223372036854775807
 | .agg l, v => ∃ cs : List Value, v = .agg cs.toArray /\ reps C l cs
 | .imm s l c, v => ∃ a cap, v = .slice a l.length cap /\ l.length <= cap /\ (cap : Int) <= 9223372036854775807 /\ (c % 8 = 0 -> a = none) /\ (c % 8 = 1 \/ c % 8 = 2 -> a ≠ none) /\ (c % 8 <= 1 \/ c % 8 = 3 -> cap = l.length) /\ (a = none -> cap = 0) /\ (0 < c / 8 -> C.fl = true) /\
   (l = [] \/ ∀ Z, C.zone (c / 8) = some Z -> ∃ a0, a = some a0 /\ a0.spot = none /\ ¬ C.M a0.block /\ Z a0.block /\ inW C.w (c % 8) a0.block /\ elems (C.at Z) l a0.block a0.off s)
 | .ref id s off len oc, v => C.rf = true /\ ∃ a cap, v = .slice a len cap /\ len <= cap /\ (cap : Int) <= 9223372036854775807 /\ (a = none -> cap = 0) /\ ((∀ c, oc = some c -> capK c = true -> cap = c) /\ (oc = none -> ∃ b T n, C.σ id = some (b, 0) /\ C.w.shape? b = some (T, n) /\ off * s + cap * s = n)) /\
   (cap = 0 \/ ∃ b T n, C.σ id = some (b, 0) /\ a = some ⟨b, off * s, none⟩ /\ C.w.shape? b = some (T, n) /\ off * s + cap * s <= n)
 | .ptr id off, v => C.rf = true /\ ∃ b o, C.σ id = some (b, o) /\ v = .pointer (some ⟨b, o + off, none⟩)
 | .eptr id s i off, v => C.rf = true /\ s ≠ 0 /\ ∃ b o, C.σ id = some (b, o) /\ v = .pointer (some ⟨b, o + i * s + off, none⟩)
 | .iptr m l, v => ∃ a0, v = .pointer (some a0) /\ a0.spot = none /\ (0 < m -> C.fl = true) /\ (l = [] \/ ∀ Z, C.zone m = some Z -> ¬ C.M a0.block /\ Z a0.block /\ a0.block < C.w.heap.size /\ cels (C.at Z) l a0.block a0.off)
 | .nilptr, v => v = .pointer none
 | .tuple l, v => ∃ vs : List Value, v = .tuple vs.toArray /\ reps C l vs
 | .fn f caps, v => ∃ cv : List Value, v = fnV f cv /\ reps C caps cv
 | .nilfn, v => v = .nilFunc
 | .iface t d, v => ∃ x, v = .iface t x /\ rep C d x
 | .nilIface, v => v = .nilIface
 | .mref id, v => C.rf = true /\ ∃ b o, C.σ id = some (b, o) /\ v = .map (some b)
 | .nilmap, v => v = .map none
 | .sc, v => scal v = true
 | .when c d, v => (c = true -> rep C d v) /\ (c = false -> v = undef)
 | .undef, _ => True
def reps (C : Cx) : List D -> List Value -> Prop
 | [], vs => vs = []
 | d :: ds, vs => ∃ v vs', vs = v :: vs' /\ rep C d v /\ reps C ds vs'
def elems (C : Cx) : List D -> Nat -> Nat -> Nat -> Prop
 | [], _, _, _ => True
 | d :: ds, b, o, s => (∃ v, rep C d v /\ v.cells.size = s /\ v.cells.toList.all (·.oneCell') = true /\ C.w.rangeAt b o v.cells.toList) /\ elems C ds b (o + s) s
def cels (C : Cx) : List D -> Nat -> Nat -> Prop
 | [], _, _ => True
 | d :: ds, b, o => (∃ v, rep C d v /\ C.w.cell? ⟨b, o, none⟩ = some v) /\ cels C ds b (o + 1)
end
theorem ya13 {C : Cx} {k n v} : rep C (.int k n) v ↔ v = .int k n /\ k.min <= n /\ n <= k.max := by simp only [rep]
theorem zy5 {C : Cx} {b v} : rep C (.bool b) v ↔ v = .bool b := by simp only [rep]
mutual
def D.ids : D -> List Nat
 | .agg l => D.idsL l
 | .ref id _ _ _ _ => [id]
 | .ptr id _ => [id]
 | .eptr id _ _ _ => [id]
 | .mref id => [id]
 | .tuple l => D.idsL l
 | .fn _ l => D.idsL l
 | .iface _ d => d.ids
 | .when _ d => d.ids
 | _ => []
def D.idsL : List D -> List Nat
 | [] => []
 | d :: ds => d.ids ++ D.idsL ds
end
def zhx (w w' : World) (b : Nat) : Prop := b < w'.heap.size /\ ∀ cs T r, w.heap[b]? = some (.cells cs T r) -> w'.heap[b]? = some (.cells cs T r)
theorem zhx.of_eq {w w' : World} {b : Nat} (h : w'.heap[b]? = w.heap[b]?) (hb : b < w.heap.size) : zhx w w' b := by
 refine ⟨?_, fun cs T r hc => h.trans hc⟩
 rw [Array.getElem?_eq_getElem hb] at h
 exact (Array.getElem?_eq_some_iff.1 h).1
theorem zhx.refl {w : World} {b : Nat} (hb : b < w.heap.size) : zhx w w b := ⟨hb, fun _ _ _ h => h⟩
theorem zhx.trans {a b c : World} {k : Nat} (h : zhx a b k) (h' : zhx b c k) : zhx a c k := ⟨h'.1, fun cs T r hc => h'.2 cs T r (h.2 cs T r hc)⟩
theorem zhx.inW {w w' : World} {b c : Nat} (h : zhx w w' b) (hc : inW w c b) : inW w' c b := ⟨h.1, fun k => by obtain ⟨cs, T, e⟩ := hc.2 k; exact ⟨cs, T, h.2 cs T _ e⟩⟩
theorem inW.of_eq {w w' : World} {b c : Nat} (hc : Tm.inW w c b) (h : w'.heap[b]? = w.heap[b]?) : Tm.inW w' c b := (zhx.of_eq h hc.1).inW hc
theorem zhx.cell {w w' : World} {b o : Nat} {v : Value} (h : zhx w w' b) (hc : w.cell? ⟨b, o, none⟩ = some v) : w'.cell? ⟨b, o, none⟩ = some v := by
 unfold World.cell? at hc ⊢
 cases hb : w.heap[b]? with
 | none => rw [hb] at hc; simp at hc
 | some x =>
  rw [hb] at hc
  cases x with
  | cells cs T r => rw [h.2 cs T r hb]; exact hc
  | _ => simp at hc
theorem zhx.range {w w' : World} {b o : Nat} {l : List Value} (hb : zhx w w' b) (h : w.rangeAt b o l) : w'.rangeAt b o l :=
 fun j v hj => hb.cell (h j v hj)
structure Cx.Le (C C' : Cx) : Prop where
 blk : ∀ m, (m = 0 \/ C.fl = true) -> ∀ Z', C'.zone m = some Z' -> ∃ Z, C.zone m = some Z /\ ∀ b, ¬ C.M b -> Z b -> b < C.w.heap.size -> ¬ C'.M b /\ Z' b /\ zhx C.w C'.w b
 shp : ∀ b, b < C.w.heap.size -> C'.w.shape? b = C.w.shape? b
 ff : C.fl = true -> C'.fl = true
 rf : C.rf = true -> C'.rf = true
 sg : C.rf = true -> ∀ id, C.σ id ≠ none -> C'.σ id = C.σ id
theorem Cx.Le.inner' {C C' : Cx} (h : ∀ b, b < C.w.heap.size -> C'.w.shape? b = C.w.shape? b) {Z Z' : Nat -> Prop} (hz : ∀ b, ¬ C.M b -> Z b -> b < C.w.heap.size -> ¬ C'.M b /\ Z' b /\ zhx C.w C'.w b) : (C.at Z).Le (C'.at Z') := by
 refine ⟨fun m hm Z'' hZ => ?_, h, (fun x => by cases x), (fun x => by cases x), (fun x => by cases x)⟩
 rcases hm with rfl | hm
 simp only [Cx.zone, Cx.at, if_true, za3] at hZ ⊢
 subst hZ
 exact ⟨Z, rfl, hz⟩
 cases hm
theorem Cx.Le.inner {C C' : Cx} (h : ∀ b, b < C.w.heap.size -> C'.w.shape? b = C.w.shape? b) {Z Z' : Nat -> Prop} (hz : ∀ b, ¬ C.M b -> Z b -> b < C.w.heap.size -> ¬ C'.M b /\ Z' b /\ C'.w.heap[b]? = C.w.heap[b]?) : (C.at Z).Le (C'.at Z') :=
 Cx.Le.inner' h fun b h1 h2 h3 => ⟨(hz b h1 h2 h3).1, (hz b h1 h2 h3).2.1, .of_eq (hz b h1 h2 h3).2.2 h3⟩
theorem Cx.Le.refl (C : Cx) : C.Le C := ⟨fun _ _ Z' h => ⟨Z', h, fun _ h1 h2 h3 => ⟨h1, h2, .refl h3⟩⟩, fun _ _ => rfl, id, id, fun _ _ _ => rfl⟩
theorem Cx.Le.trans {A B C : Cx} (h : A.Le B) (k : B.Le C) (hs : A.w.heap.size <= B.w.heap.size) : A.Le C := by
 refine ⟨fun m hm Z' hZ => ?_, fun b hb => (k.shp b (by omega)).trans (h.shp b hb), fun x => k.ff (h.ff x), fun x => k.rf (h.rf x), fun x id hid => ?_⟩
 obtain ⟨Z1, h1, h2⟩ := k.blk m (hm.imp_right h.ff) Z' hZ
 obtain ⟨Z2, h3, h4⟩ := h.blk m hm Z1 h1
 refine ⟨Z2, h3, fun b g1 g2 g3 => ?_⟩
 obtain ⟨e1, e2, e3⟩ := h4 b g1 g2 g3
 obtain ⟨f1, f2, f3⟩ := h2 b e1 e2 (by omega)
 exact ⟨f1, f2, e3.trans f3⟩
 have := h.sg x id hid
 rw [k.sg (h.rf x) id (by rwa [this]), this]
theorem zo3 {w : World} {b : Nat} {x} (h : w.shape? b = some x) : b < w.heap.size := by
 unfold World.shape? at h
 split at h
 rename_i hb; exact (Array.getElem?_eq_some_iff.1 hb).1
 simp at h
theorem znd {w w' : World} {b o : Nat} {l : List Value} (h : w.rangeAt b o l) (hb : w'.heap[b]? = w.heap[b]?) : w'.rangeAt b o l := by
 intro j v hj
 have := h j v hj
 unfold World.cell? at *
 simp only [hb]
 exact this
theorem zvp {w w' : World} {b : Nat} (h : w'.heap[b]? = w.heap[b]?) (hb : b < w.heap.size) : b < w'.heap.size := by
 rw [Array.getElem?_eq_getElem hb] at h
 exact (Array.getElem?_eq_some_iff.1 h).1
mutual
theorem zew {C C' : Cx} (h : C.Le C') : ∀ (d : D) (v : Value), rep C d v -> rep C' d v
 | .bool b, v, hr => by simpa only [rep] using hr
 | .int k n, v, hr => by simpa only [rep] using hr
 | .str l, v, hr => by simpa only [rep] using hr
 | .agg l, v, hr => by
  simp only [rep] at hr ⊢
  obtain ⟨cs, rfl, hc⟩ := hr
  exact ⟨cs, rfl, zgv h l cs hc⟩
 | .imm s l c, v, hr => by
  simp only [rep] at hr ⊢
  obtain ⟨a, cap, rfl, h1, h2, h3, h4, h5, h6, hfl, h7⟩ := hr
  refine ⟨a, cap, rfl, h1, h2, h3, h4, h5, h6, fun x => h.ff (hfl x), ?_⟩
  rcases h7 with h7 | h7
  exact .inl h7
  right
  intro Z' hZ'
  obtain ⟨Z, hZ, hz⟩ := h.blk (c / 8) (by rcases Nat.eq_zero_or_pos (c / 8) with e | e; exact .inl e; exact .inr (hfl e)) Z' hZ'
  obtain ⟨a0, ha, hs, hM, hlo, hb, he⟩ := h7 Z hZ
  obtain ⟨g1, g2, g3⟩ := hz _ hM hlo hb.1
  exact ⟨a0, ha, hs, g1, g2, g3.inW hb, zw1 (C := C.at Z) (C' := C'.at Z') (Cx.Le.inner' h.shp hz) l _ _ _ g3 he⟩
 | .ref id s off len oc, v, hr => by
  simp only [rep] at hr ⊢
  obtain ⟨h0, a, cap, rfl, h1, h2, h3, hoc, h4⟩ := hr
  refine ⟨h.rf h0, a, cap, rfl, h1, h2, h3, ⟨hoc.1, fun ho => by
   obtain ⟨b, T, n, hσ, hsh, hn⟩ := hoc.2 ho
   exact ⟨b, T, n, by rw [h.sg h0 id (by rw [hσ]; simp), hσ], by rw [h.shp _ (zo3 hsh), hsh], hn⟩⟩, ?_⟩
  rcases h4 with h4 | ⟨b, T, n, hσ, ha, hsh, hn⟩
  exact .inl h4
  exact .inr ⟨b, T, n, by rw [h.sg h0 id (by rw [hσ]; simp), hσ], ha, by rw [h.shp _ (zo3 hsh), hsh], hn⟩
 | .ptr id off, v, hr => by
  simp only [rep] at hr ⊢
  obtain ⟨h0, b, o, hσ, rfl⟩ := hr
  exact ⟨h.rf h0, b, o, by rw [h.sg h0 id (by rw [hσ]; simp), hσ], rfl⟩
 | .eptr id s i off, v, hr => by
  simp only [rep] at hr ⊢
  obtain ⟨h0, hs0, b, o, hσ, rfl⟩ := hr
  exact ⟨h.rf h0, hs0, b, o, by rw [h.sg h0 id (by rw [hσ]; simp), hσ], rfl⟩
 | .iptr m l, v, hr => by
  simp only [rep] at hr ⊢
  obtain ⟨a0, rfl, hs, hfl, hr⟩ := hr
  refine ⟨a0, rfl, hs, fun x => h.ff (hfl x), ?_⟩
  rcases hr with hr | hr
  exact .inl hr
  right
  intro Z' hZ'
  obtain ⟨Z, hZ, hz⟩ := h.blk m (by rcases Nat.eq_zero_or_pos m with e | e; exact .inl e; exact .inr (hfl e)) Z' hZ'
  obtain ⟨hM, hlo, hb, he⟩ := hr Z hZ
  obtain ⟨g1, g2, g3⟩ := hz _ hM hlo hb
  exact ⟨g1, g2, g3.1, zz6 (C := C.at Z) (C' := C'.at Z') (Cx.Le.inner' h.shp hz) l _ _ g3 he⟩
 | .nilptr, v, hr => by simpa only [rep] using hr
 | .tuple l, v, hr => by
  simp only [rep] at hr ⊢
  obtain ⟨cs, rfl, hc⟩ := hr
  exact ⟨cs, rfl, zgv h l cs hc⟩
 | .fn f l, v, hr => by
  simp only [rep] at hr ⊢
  obtain ⟨cs, rfl, hc⟩ := hr
  exact ⟨cs, rfl, zgv h l cs hc⟩
 | .nilfn, v, hr => by simpa only [rep] using hr
 | .iface t d, v, hr => by
  simp only [rep] at hr ⊢
  obtain ⟨x, rfl, hx⟩ := hr
  exact ⟨x, rfl, zew h d x hx⟩
 | .nilIface, v, hr => by simpa only [rep] using hr
 | .mref id, v, hr => by
  simp only [rep] at hr ⊢
  obtain ⟨h0, b, o, hσ, rfl⟩ := hr
  exact ⟨h.rf h0, b, o, by rw [h.sg h0 id (by rw [hσ]; simp), hσ], rfl⟩
 | .nilmap, v, hr => by simpa only [rep] using hr
 | .sc, v, hr => by simpa only [rep] using hr
 | .when c d, v, hr => by
  simp only [rep] at hr ⊢
  exact ⟨fun hc => zew h d v (hr.1 hc), hr.2⟩
 | .undef, v, _ => by simp only [rep]
theorem zgv {C C' : Cx} (h : C.Le C') : ∀ (l : List D) (vs : List Value), reps C l vs -> reps C' l vs
 | [], vs, hr => by simpa only [reps] using hr
 | d :: ds, vs, hr => by
  simp only [reps] at hr ⊢
  obtain ⟨v, vs', rfl, h1, h2⟩ := hr
  exact ⟨v, vs', rfl, zew h d v h1, zgv h ds vs' h2⟩
theorem zw1 {C C' : Cx} (h : C.Le C') : ∀ (l : List D) (b o s : Nat), zhx C.w C'.w b -> elems C l b o s -> elems C' l b o s
 | [], _, _, _, _, _ => by simp only [elems]
 | d :: ds, b, o, s, hb, hr => by
  simp only [elems] at hr ⊢
  obtain ⟨⟨v, h1, h2, h2', h3⟩, h4⟩ := hr
  exact ⟨⟨v, zew h d v h1, h2, h2', hb.range h3⟩, zw1 h ds b (o + s) s hb h4⟩
theorem zz6 {C C' : Cx} (h : C.Le C') : ∀ (l : List D) (b o : Nat), zhx C.w C'.w b -> cels C l b o -> cels C' l b o
 | [], _, _, _, _ => by simp only [cels]
 | d :: ds, b, o, hb, hr => by
  simp only [cels] at hr ⊢
  obtain ⟨⟨v, h1, h3⟩, h4⟩ := hr
  exact ⟨⟨v, zew h d v h1, hb.cell h3⟩, zz6 h ds b (o + 1) hb h4⟩
end
theorem zfe {C C' : Cx} (h : C.Le C') : ∀ (l : List D) (b o s : Nat), C'.w.heap[b]? = C.w.heap[b]? -> elems C l b o s -> elems C' l b o s
 | [], _, _, _, _, _ => by simp only [elems]
 | d :: ds, b, o, s, hb, hr => by
  simp only [elems] at hr ⊢
  obtain ⟨⟨v, h1, h2, h2', h3⟩, h4⟩ := hr
  exact ⟨⟨v, zew h d v h1, h2, h2', znd h3 hb⟩, zfe h ds b (o + s) s hb h4⟩
theorem zsj {C C' : Cx} (h : C.Le C') : ∀ (l : List D) (b o : Nat), C'.w.heap[b]? = C.w.heap[b]? -> cels C l b o -> cels C' l b o
 | [], _, _, _, _ => by simp only [cels]
 | d :: ds, b, o, hb, hr => by
  simp only [cels] at hr ⊢
  obtain ⟨⟨v, h1, h3⟩, h4⟩ := hr
  refine ⟨⟨v, zew h d v h1, ?_⟩, zsj h ds b (o + 1) hb h4⟩
  unfold World.cell? at *
  simp only [hb]
  exact h3
def unk (c : Nat) : Nat := bif Nat.beq (c % 8) 5 then 4 else c % 8
theorem ya8e {c : Nat} (h : c % 8 = 5) : unk c = 4 := by unfold unk; rw [h]; rfl
theorem ya61 {c : Nat} (h : c % 8 ≠ 5) : unk c = c % 8 := by
 unfold unk
 cases hb : Nat.beq (c % 8) 5
 rfl
 exact absurd (nb hb) h
theorem zv3 (c : Nat) : (c % 8 = 5 /\ unk c = 4) \/ (c % 8 ≠ 5 /\ unk c = c % 8) := by
 by_cases h : c % 8 = 5
 exact .inl ⟨h, ya8e h⟩
 exact .inr ⟨h, ya61 h⟩
mutual
def unf : D -> D
 | .imm s l c => .imm s l (unk c)
 | .iptr _ l => .iptr 0 l
 | .agg l => .agg (unfL l)
 | .tuple l => .tuple (unfL l)
 | .iface t d => .iface t (unf d)
 | .fn f l => .fn f (unfL l)
 | .when c d => .when c (unf d)
 | d => d
def unfL : List D -> List D
 | [] => []
 | d :: ds => unf d :: unfL ds
end
mutual
def mkM (m : Nat) : D -> D
 | .imm s l c => .imm s l (c % 8 + 8 * m)
 | .iptr _ l => .iptr m l
 | .agg l => .agg (mkML m l)
 | .tuple l => .tuple (mkML m l)
 | .iface t d => .iface t (mkM m d)
 | .fn f l => .fn f (mkML m l)
 | .when c d => .when c (mkM m d)
 | d => d
def mkML (m : Nat) : List D -> List D
 | [] => []
 | d :: ds => mkM m d :: mkML m ds
end
mutual
def okM (q : Nat -> Bool) : D -> Bool
 | .imm _ l c => q (c / 8) || l.isEmpty
 | .iptr m _ => q m
 | .agg l => okML q l
 | .tuple l => okML q l
 | .iface _ d => okM q d
 | .fn _ l => okML q l
 | .when _ d => okM q d
 | _ => true
def okML (q : Nat -> Bool) : List D -> Bool
 | [] => true
 | d :: ds => okM q d && okML q ds
end
def low3 (m : Nat) : Bool := Nat.blt m 3
def new1 (m : Nat) : Bool := Nat.beq m 1
structure FrS where
 rd : Nat -> D
 hp : Nat -> Option Blk
 nu : Nat -> Bool
structure Gh where
 σ : Nat -> Option (Nat × Nat)
 Z : Nat -> Prop
 zn : Nat -> Option (Nat -> Prop)
def ownB (g : Gh) (hp : Nat -> Option Blk) (b : Nat) : Prop := ∃ id o, hp id ≠ none /\ g.σ id = some (b, o)
def cx (w : World) (g : Gh) (hp : Nat -> Option Blk) : Cx := ⟨w, g.σ, ownB g hp, g.Z, g.zn, true, true⟩
def ya84 (C : Cx) (x : D × D) (e : MapEntry) : Prop := rep C x.1 e.key /\ rep C x.2 e.val
def zeh (C : Cx) : List (D × D) -> List MapEntry -> Prop
 | [], es => es = []
 | x :: xs, es => ∃ e es', es = e :: es' /\ ya84 C x e /\ zeh C xs es'
def holds (C : Cx) (id : Nat) : Blk -> Prop
 | .box cells => ∃ b cs T, C.σ id = some (b, 0) /\ C.w.heap[b]? = some (.cells cs T (0, 0)) /\ reps C cells cs.toList /\ cs.toList.all (·.oneCell') = true
 | .arr e s p items => (items = [] /\ C.σ id = none) \/ ∃ b cs, C.σ id = some (b, 0) /\ C.w.heap[b]? = some (.cells cs e (0, 0)) /\ items.length * s <= cs.size /\ elems { C with rf := !p } items b 0 s
 | .map es => ∃ b ens clock, C.σ id = some (b, 0) /\ C.w.heap[b]? = some (.map ens clock) /\ zeh C es ens.toList
structure Keep (X : Nat -> Prop) (w w' : World) : Prop where
 os : w'.os = w.os
 tape : w'.tape = w.tape
 output : w'.output = w.output
 size : w.heap.size <= w'.heap.size
 block : ∀ k, k < w.heap.size -> ¬ X k -> w'.heap[k]? = w.heap[k]?
 shp : ∀ k, k < w.heap.size -> w'.shape? k = w.shape? k
theorem zkg {w w' : World} {b : Nat} (h : w'.heap[b]? = w.heap[b]?) : w'.shape? b = w.shape? b := by
 unfold World.shape?; rw [h]
theorem Keep.refl (X : Nat -> Prop) (w : World) : Keep X w w := ⟨rfl, rfl, rfl, za4 _, fun _ _ _ => rfl, fun _ _ => rfl⟩
theorem Keep.trans {X : Nat -> Prop} {a b c : World} (h : Keep X a b) (k : Keep (fun i => X i \/ a.heap.size <= i) b c) : Keep X a c :=
 ⟨k.os.trans h.os, k.tape.trans h.tape, k.output.trans h.output, zar h.size k.size,
  fun i hi hx => (k.block i (Nat.lt_of_lt_of_le hi h.size) (fun h1 => h1.elim hx (fun h2 => by omega))).trans (h.block i hi hx),
  fun i hi => (k.shp i (Nat.lt_of_lt_of_le hi h.size)).trans (h.shp i hi)⟩
theorem Keep.mono {X Y : Nat -> Prop} {a b : World} (h : Keep X a b) (hxy : ∀ i, i < a.heap.size -> X i -> Y i) : Keep Y a b :=
 ⟨h.os, h.tape, h.output, h.size, fun k hk hy => h.block k hk fun hx => hy (hxy k hk hx), h.shp⟩
theorem Keep.below {w w' : World} (h : Keep (fun _ => False) w w') : Go.RowKit.Below w.heap.size w w' :=
 ⟨h.os, h.tape, h.output, h.size, fun k hk => h.block k hk id⟩
theorem Keep.of_below {X : Nat -> Prop} {w w' : World} (h : Go.RowKit.Below w.heap.size w w') : Keep X w w' :=
 ⟨h.os, h.tape, h.output, h.size, fun k hk _ => h.block k hk, fun k hk => zkg (h.block k hk)⟩
theorem Keep.drew {X : Nat -> Prop} {a w : World} (h : Keep X a w) : Keep X a w.drew := ⟨h.os, h.tape, h.output, h.size, h.block, h.shp⟩
structure Zones (fr : Nat) (g : Gh) (M : Nat -> Prop) (sz : Nat) : Prop where
 z0 : ∀ b, sz <= b -> g.Z b
 z1 : ∃ Z1, g.zn 1 = some Z1 /\ (∀ b, Z1 b -> fr <= b /\ g.Z b) /\ ∀ b, sz <= b -> Z1 b
 z2 : ∃ Z2, g.zn 2 = some Z2 /\ ∀ b, Z2 b -> b < fr /\ g.Z b
 zr : ∀ m Zm, 3 <= m -> g.zn m = some Zm -> ∀ b, Zm b -> b < sz /\ fr <= b /\ g.Z b /\ ¬ M b /\ ∀ m' Zm', m' ≠ m -> 3 <= m' -> g.zn m' = some Zm' -> ¬ Zm' b
 zo : ∀ b, M b -> fr <= b /\ g.Z b /\ ∃ Z1, g.zn 1 = some Z1 /\ Z1 b
def ya8s : Option Value := some (.iface 227 (.agg #[.pointer (some ⟨1, 76, none⟩)]))
def Gw (fr : Nat) (w : World) : Prop := ∀ v, ya8s = some v -> 0 < fr /\ w.cell? ⟨0, 0, none⟩ = some v
structure Fl (fr : Nat) (w : World) : Prop where
 le : fr <= w.heap.size
 gl : Gw fr w
theorem Fl.gw {fr : Nat} {w : World} (h : Fl fr w) : Gw w.heap.size w := fun v hv => ⟨Nat.lt_of_lt_of_le (h.gl v hv).1 h.le, (h.gl v hv).2⟩
theorem Fl.of {fr : Nat} {w w' : World} (h : Fl fr w) (hs : w.heap.size <= w'.heap.size) (hb : 0 < fr -> 0 < w.heap.size -> w'.heap[0]? = w.heap[0]?) : Fl fr w' := by
 refine ⟨zar h.le hs, fun v hv => ?_⟩
 obtain ⟨h1, h2⟩ := h.gl v hv
 refine ⟨h1, ?_⟩
 unfold World.cell? at h2 ⊢
 simp only [hb h1 (Nat.lt_of_lt_of_le h1 h.le)]
 exact h2
theorem Fl.obj {fr : Nat} {w : World} (h : Fl fr w) {l : Nat} {o o' : Obj} (hl : w.heap[l]? = some o) (ho : ∀ cs T f, o ≠ .cells cs T f) : Fl fr (w.putObj l o') := by
 refine ⟨by rw [World.putObj_size]; exact h.le, fun v hv => ?_⟩
 obtain ⟨h1, h2⟩ := h.gl v hv
 refine ⟨h1, ?_⟩
 have hne : (0 : Nat) ≠ l := by
  rintro rfl
  unfold World.cell? at h2
  simp only [hl] at h2
  cases o <;> first | (exact ho _ _ _ rfl) | (cases h2)
 unfold World.cell? at h2 ⊢
 rw [World.putObj_heap_other hne]
 exact h2
structure Mem (fr : Nat) (w : World) (g : Gh) (hp : Nat -> Option Blk) (nu : Nat -> Bool) : Prop where
 hd : ∀ id blk, hp id = some blk -> holds (cx w g hp) id blk
 inj : ∀ id id' b o o', hp id ≠ none -> hp id' ≠ none -> g.σ id = some (b, o) -> g.σ id' = some (b, o') -> id = id'
 nw : ∀ id, nu id = true -> g.σ id = none /\ hp id = none
 zs : Zones fr g (ownB g hp) w.heap.size
 fl : Fl fr w
structure En where
 w0 : World
 fr : Nat
 X : Nat -> Prop
 g0 : Gh
 nu0 : Nat -> Bool
structure Rel (E : En) (n : Nat) (F : FrS) (a : Act) (w : World) (g : Gh) : Prop where
 sz : n <= a.tmps.size
 df : a.defers = []
 rd : ∀ t, rep (cx w g F.hp) (F.rd t) (a.eval (.tmp t))
 mem : Mem E.fr w g F.hp F.nu
 base : ∀ id b o, F.hp id ≠ none -> g.σ id = some (b, o) -> E.w0.heap.size <= b \/ E.X b
 keep : Keep E.X E.w0 w
 gz : g.Z = E.g0.Z /\ g.zn = E.g0.zn
 gs : ∀ id, E.nu0 id = false -> g.σ id = E.g0.σ id
 nu : ∀ id, F.nu id = true -> E.nu0 id = true
theorem zuf {C : Cx} {id : Nat} {blk : Blk} (h : holds C id blk) {b o : Nat} (hs : C.σ id = some (b, o)) : b < C.w.heap.size /\ o = 0 := by
 cases blk with
 | box cells =>
  obtain ⟨b1, cs, T, h1, h2, _⟩ := h
  have e := h1.symm.trans hs
  simp only [za3, za6] at e
  obtain ⟨rfl, rfl⟩ := e
  exact ⟨(Array.getElem?_eq_some_iff.1 h2).1, rfl⟩
 | arr e s p items =>
  rcases h with ⟨_, h1⟩ | ⟨b1, cs, h1, h2, _⟩
  rw [hs] at h1; cases h1
  have e := h1.symm.trans hs
  simp only [za3, za6] at e
  obtain ⟨rfl, rfl⟩ := e
  exact ⟨(Array.getElem?_eq_some_iff.1 h2).1, rfl⟩
 | map es =>
  obtain ⟨b1, ens, clock, h1, h2, _⟩ := h
  have e := h1.symm.trans hs
  simp only [za3, za6] at e
  obtain ⟨rfl, rfl⟩ := e
  exact ⟨(Array.getElem?_eq_some_iff.1 h2).1, rfl⟩
theorem Mem.own_lt {fr w g hp nu} (h : Mem fr w g hp nu) {b : Nat} (hb : ownB g hp b) : b < w.heap.size := by
 obtain ⟨id, o, h1, h2⟩ := hb
 obtain ⟨x, hx⟩ := Option.ne_none_iff_exists'.1 h1
 exact (zuf (C := cx w g hp) (h.hd id x hx) h2).1
def getL {α : Type} : List (Nat × α) -> Nat -> Option α
 | [], _ => none
 | (a, x) :: r, t => bif Nat.beq a t then some x else getL r t
def effH (hp : Nat -> Option Blk) (eff : List (Nat × Option Blk)) : Nat -> Option Blk := fun id => match getL eff id with | some b => b | none => hp id
def effN (nu : Nat -> Bool) (nw : Nat × Nat) : Nat -> Bool := fun id => nu id && !(decide (nw.1 <= id) && decide (id < nw.2))
def FrS.eff (F : FrS) (eff : List (Nat × Option Blk)) (nw : Nat × Nat) : FrS := ⟨F.rd, effH F.hp eff, effN F.nu nw⟩
structure TI where
 kind : Nat
 size : Nat
 offs : List (Nat × Nat × Bool)
 zero : List D
 el : Nat
 esz : Nat
 eby : Nat
 eagg : Bool
 ik : Option IntKind
 eqs : Bool := false
 ezero : List D := []
 deriving Inhabited
def zng (P : Program) (t : TypeId) : Bool :=
 match P.underlying t with
 | some (.struct _) | some (.array _ _) => true
 | _ => false
def zf5 : List D -> List Value -> Bool
 | [], [] => true
 | .bool b :: ds, .bool b' :: vs => b == b' && zf5 ds vs
 | .int k n :: ds, .int k' n' :: vs => decide (k = k') && n == n' && decide (k.min <= n) && decide (n <= k.max) && zf5 ds vs
 | .str [] :: ds, .string s :: vs => s.size == 0 && zf5 ds vs
 | .imm _ [] 0 :: ds, .slice none 0 0 :: vs => zf5 ds vs
 | .nilptr :: ds, .pointer none :: vs => zf5 ds vs
 | .nilfn :: ds, .nilFunc :: vs => zf5 ds vs
 | .nilIface :: ds, .nilIface :: vs => zf5 ds vs
 | .nilmap :: ds, .map none :: vs => zf5 ds vs
 | _, _ => false
def zoh : Value -> Bool
 | .agg _ => true
 | _ => false
def zd0 (P : Program) (t : TypeId) (ti : TI) : Bool :=
 match P.info? t, P.underlying t with
 | some i, some d =>
  i.size == ti.size && (match i.zero with | some z => zf5 ti.zero z.cells.toList | none => false) &&
  match d with
  | .struct fs => ti.kind == 2 && ti.offs == fs.toList.map (fun f => (f.offset, P.cellsOf f.type, zng P f.type)) && fs.toList.all (fun f => (P.info? f.type).isSome && (P.underlying f.type).isSome && P.cellsOf f.type != 0)
  | .slice e => ti.kind == 3 && (match P.info? e with | some j => j.size == ti.esz && j.bytes == ti.eby && j.bytes != 0 && j.size != 0 && (match j.zero with | some z => z.cells.size == j.size && zf5 ti.ezero z.cells.toList && zoh z == ti.eagg | none => false) | none => false) && ti.el == e && (zng P e == ti.eagg)
  | .array n e => ti.kind == 4 && (match P.info? e with | some j => j.size == 1 | none => false) && ti.size == n && ti.offs == (List.range n).map (fun i => (i, 1, false))
  | .string => ti.kind == 5
  | .int k => ti.kind == 6 && ti.ik == some k
  | .pointer _ | .func _ _ _ => ti.kind == 1
  | .bool => ti.kind == 8
  | .interface _ => ti.kind == 7
  | .map k v => ti.kind == 9 && ti.el == k && (match P.info? v with | some j => j.size == ti.esz && (match j.zero with | some z => zf5 ti.ezero z.cells.toList && zoh z == ti.eagg | none => false) | none => false) && (zng P v == ti.eagg)
  | _ => false
 | _, _ => false
def zkt (P : Program) : Nat -> List Field -> List D -> Bool
 | _, [], [] => true
 | j, f :: fs, z :: zs => Nat.beq f.offset j && Nat.beq (P.cellsOf f.type) 1 && f.name != "_" && (match P.underlying f.type, z with
   | some (.int k), .int k' _ => decide (k = k')
   | some .string, .str _ => true
   | some .bool, .bool _ => true
   | _, _ => false) && zkt P (j + 1) fs zs
 | _, _, _ => false
def ya5i (P : Program) (t : TypeId) (z : List D) : Bool :=
 match P.underlying t, z with
 | some (.int k), [.int k' _] => decide (k = k')
 | some .string, [.str _] => true
 | some .bool, [.bool _] => true
 | some (.struct fs), z => zkt P 0 fs.toList z && P.cellsOf t == fs.size
 | _, _ => false
def zjb (P : Program) : Nat -> List Field -> List D -> Bool
 | _, [], z => z.isEmpty
 | j, f :: fs, z => Nat.beq f.offset j && f.name != "_" && Nat.ble (P.cellsOf f.type) z.length && ya5i P f.type (z.take (P.cellsOf f.type)) && zjb P (j + P.cellsOf f.type) fs (z.drop (P.cellsOf f.type))
def zg3 : List D -> List D -> List D -> Option Bool
 | [], [], [] => some true
 | .int k _ :: z, .int k1 a :: l, .int k2 b :: l' => bif decide (k1 = k) && decide (k2 = k) then (match zg3 z l l' with | some r => some ((a == b) && r) | none => none) else none
 | .str _ :: z, .str a :: l, .str b :: l' => match zg3 z l l' with | some r => some ((a == b) && r) | none => none
 | .bool _ :: z, .bool a :: l, .bool b :: l' => match zg3 z l l' with | some r => some ((a == b) && r) | none => none
 | _, _, _ => none
def ztk (P : Program) (t : TypeId) (ti : TI) : Bool :=
 match P.underlying t with
 | some (.struct fs) => P.keyTypeAt 3 t && !P.eqGuardType P.depth t && zjb P 0 fs.toList ti.zero && P.cellsOf t == ti.zero.length
 | _ => false
end Go.Tm
namespace Go.Tm
def zvi : Value -> D
 | .bool b => .bool b
 | .int k n => .int k n
 | .string s => .str s.data.toList
 | .slice none 0 0 => .imm 0 [] 0
 | .pointer none => .nilptr
 | .nilFunc => .nilfn
 | .nilIface => .nilIface
 | .map none => .nilmap
 | _ => .undef
def ya2s : Value -> Bool
 | .int k n => decide (k.min <= n) && decide (n <= k.max)
 | .string s => decide ((s.data.toList.length : Int) <= 9223372036854775807)
 | _ => true
def ev (rd : Nat -> D) : Operand -> D
 | .tmp t => rd t
 | .const v => zvi v
 | .func f => .fn (.func f) []
 | .global _ => .undef
def opd (g : Bool) (rd : Nat -> D) (x : Operand) : D × Bool :=
 match ev rd x with
 | .when c d => (d, !g || c)
 | d => (d, true)
structure Out where
 d : D
 vc : Bool
 eff : List (Nat × Option Blk) := []
 nw : Nat × Nat := (0, 0)
 met : List Nat := []
@[irreducible] def wr (k : IntKind) (n : Int) : Int := k.wrap n
@[irreducible] def nth (l : List D) (i : Nat) : D := l.getD i .undef
@[irreducible] def bitw (op : BinOp) (k : IntKind) (a b : Int) : Int := bits op k a b
@[irreducible] def shw (l : Bool) (k : IntKind) (a b : Int) : Int :=
 bif l then k.wrap (a * 2 ^ (min b.toNat k.bits)) else a.fdiv (2 ^ (min b.toNat k.bits))
def ya04 (op : BinOp) (k : IntKind) (a b : Int) : Option (D × Bool) :=
 match op with
 | .add => some (.int k (wr k (a + b)), true)
 | .sub => some (.int k (wr k (a - b)), true)
 | .mul => some (.int k (wr k (a * b)), true)
 | .quo => some (.int k (wr k (a.tdiv b)), !decide (b = 0))
 | .rem => some (.int k (a.tmod b), !decide (b = 0))
 | .eql => some (.bool (a == b), true)
 | .neq => some (.bool (a != b), true)
 | .lss => some (.bool (decide (a < b)), true)
 | .leq => some (.bool (decide (a <= b)), true)
 | .gtr => some (.bool (decide (a > b)), true)
 | .geq => some (.bool (decide (a >= b)), true)
 | .and | .or | .xor | .andNot => some (.int k (bitw op k a b), true)
 | _ => none
def zr2 (op : BinOp) (a b : List UInt8) : Option (D × Bool) :=
 match op with
 | .add => some (.str (a ++ b), decide (((a.length + b.length : Nat) : Int) <= 9223372036854775807))
 | .eql => some (.bool (a == b), true)
 | .neq => some (.bool !(a == b), true)
 | .lss => some (.bool (Op.bytesLess a b), true)
 | .leq => some (.bool (Op.bytesLess a b || (a == b)), true)
 | .gtr => some (.bool !(Op.bytesLess a b || (a == b)), true)
 | .geq => some (.bool !(Op.bytesLess a b), true)
 | _ => none
def bin (op : BinOp) (x y : D) : Option (D × Bool) :=
 match x, y with
 | .int k a, .int k' b => match op with
  | .shl => some (.int k (shw true k a b), decide (0 <= b))
  | .shr => some (.int k (shw false k a b), decide (0 <= b))
  | _ => bif decide (k = k') then ya04 op k a b else none
 | .str a, .str b => zr2 op a b
 | .bool a, .bool b => match op with
  | .eql => some (.bool (a == b), true)
  | .neq => some (.bool !(a == b), true)
  | _ => none
 | .imm _ _ c, .imm _ [] 0 => match op with
  | .eql => some (.bool (c % 8 == 0), Nat.ble (c % 8) 2)
  | .neq => some (.bool !(c % 8 == 0), Nat.ble (c % 8) 2)
  | _ => none
 | .ref _ _ _ len _, .imm _ [] 0 => match op with
  | .eql => some (.bool false, Nat.blt 0 len)
  | .neq => some (.bool true, Nat.blt 0 len)
  | _ => none
 | .nilIface, .nilIface => match op with
  | .eql => some (.bool true, true)
  | .neq => some (.bool false, true)
  | _ => none
 | .iface _ _, .nilIface => match op with
  | .eql => some (.bool false, true)
  | .neq => some (.bool true, true)
  | _ => none
 | _, _ => none
def cstO : Operand -> Operand -> Bool
 | .const _, _ => true
 | _, .const _ => true
 | _, _ => false
def binT (ti : TI) (c : Bool) : D -> Bool
 | .bool _ => ti.kind == 8
 | .imm _ _ _ => ti.kind == 3
 | .ref _ _ _ _ _ => ti.kind == 3
 | .nilIface => ti.kind == 7 && c
 | .iface _ _ => ti.kind == 7
 | _ => true
def zw4 (b : Bool) : D -> D -> Option D
 | .bool x, .bool y => some (.bool (bif b then x else y))
 | .int k x, .int k' y => bif decide (k = k') then some (.int k (bif b then x else y)) else none
 | .str x, .str y => some (.str (bif b then x else y))
 | x, y => match b with
  | true => some x
  | false => some y
def part (agg : Bool) (n : Nat) (l : List D) : Option D :=
 bif agg then some (.agg (l.take n)) else match l with
  | d :: _ => some d
  | [] => none
def zo2 (l : List D) (off : Nat) (new : List D) : List D := l.take off ++ new ++ l.drop (off + new.length)
def zs6 (offs : List (Nat × Nat × Bool)) (cells : List D) : List (Nat × D) -> Option (List D × Bool)
 | [] => some (cells, true)
 | (i, d) :: r => match offs[i]? with
  | some (o, n, _) => match zs6 offs (zo2 cells o d.cells) r with
   | some (c, p) => some (c, Nat.beq d.cells.length n && Nat.ble (o + n) cells.length && p)
   | none => none
  | none => none
def zoc (g : Bool) (rd : Nat -> D) : List (Nat × Operand) -> List (Nat × D) × Bool
 | [] => ([], true)
 | (i, x) :: r => match opd g rd x, zoc g rd r with
  | (d, p), (ds, q) => ((i, d) :: ds, p && q)
def oneD : D -> Bool
 | .agg _ | .tuple _ | .when _ _ | .undef => false
 | _ => true
def mkZ (m : Nat) (d : D) : D := match m with
 | 0 => d
 | m + 1 => mkM (m + 1) d
def mkZL (m : Nat) (l : List D) : List D := match m with
 | 0 => l
 | m + 1 => mkML (m + 1) l
def zro (hp : Nat -> Option Blk) (agg : Bool) (n : Nat) : D -> Option (D × Bool)
 | .iptr m l => match part agg n l with
  | some d => some (mkZ m d, Nat.ble n l.length && Nat.blt m 3)
  | none => none
 | .ptr id off => match hp id with
  | some (.box cs) => match part agg n (cs.drop off) with
   | some d => some (d, Nat.ble (off + n) cs.length)
   | none => none
  | _ => none
 | .eptr id s i off => match hp id with
  | some (.arr _ s' _ items) => match part agg n ((nth items i).cells.drop off) with
   | some d => some (d, Nat.beq s' s && Nat.blt i items.length && Nat.ble (off + n) (nth items i).cells.length)
   | none => none
  | _ => none
 | _ => none
def zzi (old : D) (off : Nat) (new : List D) : D := match old with
 | .agg l => .agg (zo2 l off new)
 | _ => match new with
  | [d] => d
  | l => .agg l
@[irreducible] def setN (l : List D) (i : Nat) (d : D) : List D := l.set i d
def zo1 (hp : Nat -> Option Blk) (n : Nat) (d : D) : D -> Option (Bool × Nat × Blk)
 | .ptr id off => match hp id with
  | some (.box cs) => some (Nat.beq d.cells.length n && Nat.ble (off + n) cs.length && d.cells.all oneD, id, .box (zo2 cs off d.cells))
  | _ => none
 | .eptr id s i off => match hp id with
  | some (.arr e s' p items) => some (Nat.beq d.cells.length n && Nat.beq s' s && Nat.blt i items.length && Nat.ble (off + n) (nth items i).cells.length && d.cells.all oneD, id, .arr e s' (p && (D.idsL d.cells).isEmpty) (setN items i (zzi (nth items i) off d.cells)))
  | _ => none
 | _ => none
def ub (b : UInt8) : D := .int .u8 (b.toNat : Int)
def srcD (hp : Nat -> Option Blk) (esz : Nat) : D -> Option (List D × Bool × Bool)
 | .imm s' l c => some (mkZL (c / 8) l, true, (Nat.beq s' esz || l.isEmpty) && Nat.blt (c / 8) 3)
 | .ref id s' off len _ => match hp id with
  | some (.arr _ s'' p items) => some ((items.drop off).take len, p, Nat.beq s' esz && Nat.beq s'' esz && Nat.ble (off + len) items.length)
  | _ => none
 | .str l => some (l.map ub, true, Nat.beq esz 1)
 | _ => none
def zbv (hp : Nat -> Option Blk) (nid el esz eby : Nat) (s : D) (xs : List D) (px vx : Bool) : Option Out :=
 match s with
 | .imm _ [] c => match xs with
  | [] => some ⟨.imm esz [] c, vx, [], (0, 0), []⟩
  | _ :: _ => some ⟨.ref nid esz 0 xs.length none, vx && (Nat.ble (c % 8) 1 || Nat.beq (c % 8) 3) && decide (xs.length * eby <= 140737488355328), [(nid, some (.arr el esz px xs))], (nid, nid + 1), []⟩
 | .ref id s' off len oc => match hp id with
  | some (.arr e s'' p items) => match oc with
   | none => some ⟨.ref nid esz 0 (len + xs.length) none, vx && Nat.beq e el && Nat.beq s' esz && Nat.beq s'' esz && Nat.beq off 0 && Nat.beq len items.length && decide ((items.length + xs.length) * eby <= 140737488355328),
     [(nid, some (.arr el esz (p && px) (items ++ xs))), (id, none)], (nid, nid + 1), []⟩
   | some c => bif !capK c then some ⟨.ref nid esz 0 (len + xs.length) (some c), vx && Nat.beq e el && Nat.beq s' esz && Nat.beq s'' esz && Nat.beq off 0 && Nat.beq len items.length && decide ((items.length + xs.length) * eby <= 140737488355328),
     [(nid, some (.arr el esz (p && px) (items ++ xs))), (id, none)], (nid, nid + 1), []⟩
     else bif Nat.blt c (len + xs.length) then
      some ⟨.ref nid esz 0 (len + xs.length) none, vx && Nat.beq e el && Nat.beq s' esz && Nat.beq s'' esz && Nat.ble (off + len) items.length && decide ((len + xs.length) * eby <= 140737488355328),
       [(nid, some (.arr el esz (p && px) ((items.drop off).take len ++ xs)))], (nid, nid + 1), []⟩
     else match xs with
      | [] => some ⟨.ref id s' off len oc, vx, [], (0, 0), []⟩
      | _ :: _ => some ⟨.ref nid esz 0 (len + xs.length) oc, vx && Nat.beq e el && Nat.beq s' esz && Nat.beq s'' esz && Nat.beq off 0 && Nat.beq len items.length,
       [(nid, some (.arr el esz (p && px) (items ++ xs))), (id, none)], (nid, nid + 1), []⟩
  | _ => none
 | _ => none
def zgc (len : Int) (lo hi : Option D) : Option (Int × Int × Bool) :=
 match lo, hi with
 | none, none => some (0, len, true)
 | some (.int _ a), none => some (a, len, decide (0 <= a) && decide (a <= len))
 | none, some (.int _ b) => some (0, b, decide (0 <= b) && decide (b <= len))
 | some (.int _ a), some (.int _ b) => some (a, b, decide (0 <= a) && decide (a <= b) && decide (b <= len))
 | _, _ => none
def capS : Option Nat -> Nat -> Option Nat
 | some c, a => some (bif capK c then c - a else c)
 | none, _ => none
def zvb (hp : Nat -> Option Blk) (id s off : Nat) (oc : Option Nat) (lo hi : Option D) : Bool :=
 match oc with
 | some c => capK c && match zgc c lo hi with | some (_, _, v) => v | none => false
 | none => match hp id with
  | some (.arr _ s' _ items) => Nat.beq s' s && !(Nat.beq s 0) && Nat.ble off items.length && (match zgc ((items.length - off : Nat) : Int) lo hi with | some (_, _, v) => v | none => false)
  | _ => false
def zk7 (hp : Nat -> Option Blk) : D -> Bool
 | .ref id s off _ none => match hp id with
  | some (.arr _ s' _ items) => Nat.beq s' s && !(Nat.beq s 0) && Nat.blt off items.length
  | _ => false
 | .ref _ _ _ _ (some c) => Nat.blt 0 c && capK c
 | _ => false
def zhw (hp : Nat -> Option Blk) (esz : Nat) (s : D) (xs : List D) (px vx : Bool) : Option Out :=
 match s with
 | .ref id s' off len none => match hp id with
  | some (.arr e s'' p items) => bif Nat.beq off 0 && Nat.beq len items.length then none else
    some ⟨.ref id s' off (len + xs.length) none, vx && Nat.beq s' esz && Nat.beq s'' esz && Nat.ble (off + len + xs.length) items.length,
     [(id, some (.arr e s'' (p && px) (items.take (off + len) ++ xs ++ items.drop (off + len + xs.length))))], (0, 0), []⟩
  | _ => none
 | .ref id s' off len (some c) => match hp id with
  | some (.arr e s'' p items) => bif capK c && Nat.blt (off + len) items.length && Nat.ble (len + xs.length) c then
    some ⟨.ref id s' off (len + xs.length) (some c), vx && Nat.beq s' esz && Nat.beq s'' esz && Nat.ble (off + len + xs.length) items.length,
     [(id, some (.arr e s'' (p && px) (items.take (off + len) ++ xs ++ items.drop (off + len + xs.length))))], (0, 0), []⟩ else none
  | _ => none
 | _ => none
def zdp (ti : TI) : D := bif ti.eagg then .agg ti.ezero else match ti.ezero with
 | d :: _ => d
 | [] => .undef
def zlo (hp : Nat -> Option Blk) (nid : Nat) (ti : TI) (s x : D) : Option Out :=
 match s, x with
 | .ref id s' off len (some c), .int _ m => match hp id with
  | some (.arr e s'' p items) => some ⟨.ref nid ti.esz 0 (len + m.toNat) none, Nat.beq e ti.el && Nat.beq s' ti.esz && Nat.beq s'' ti.esz && Nat.ble (off + len) items.length && decide (0 < m) && capK c && Nat.blt c (len + m.toNat) && decide ((len + m.toNat) * ti.eby <= 140737488355328),
    [(nid, some (.arr ti.el ti.esz p ((items.drop off).take len ++ List.replicate m.toNat (zdp ti))))], (nid, nid + 1), []⟩
  | _ => none
 | .imm _ [] c, .int _ m => some ⟨.ref nid ti.esz 0 m.toNat none, (Nat.ble (c % 8) 1 || Nat.beq (c % 8) 3) && decide (0 < m) && decide (m.toNat * ti.eby <= 140737488355328), [(nid, some (.arr ti.el ti.esz true (List.replicate m.toNat (zdp ti))))], (nid, nid + 1), []⟩
 | _, _ => none
def opdO (g : Bool) (rd : Nat -> D) : Option Operand -> Option D × Bool
 | none => (none, true)
 | some x => match opd g rd x with
  | (d, p) => (some d, p)
def opds (g : Bool) (rd : Nat -> D) : List Operand -> List D × Bool
 | [] => ([], true)
 | x :: r => match opd g rd x, opds g rd r with
  | (d, p), (ds, q) => (d :: ds, p && q)
def zoj : Nat -> Nat -> List (Nat × Operand) -> Bool
 | k, n, [] => Nat.beq k n
 | k, n, (i, _) :: r => Nat.beq i k && zoj (k + 1) n r
def zlw : List D -> Option (List UInt8)
 | [] => some []
 | .int .u8 n :: r => match zlw r with
  | some l => some (UInt8.ofNat n.toNat :: l)
  | none => none
 | _ => none
def zmf : D -> D -> Option Bool
 | .int k a, .int k' b => bif decide (k = k') then some (a == b) else none
 | .str a, .str b => some (a == b)
 | .agg l, .agg l' => zg3 l l l'
 | _, _ => none
def zs5 (k : D) : List (D × D) -> Option (Option D)
 | [] => some none
 | (x, y) :: r => match zmf k x with
  | some true => some (some y)
  | some false => zs5 k r
  | none => none
def delD (k : D) : List (D × D) -> Option (List (D × D))
 | [] => some []
 | (x, y) :: r => match zmf k x with
  | some true => some r
  | some false => match delD k r with
   | some l => some ((x, y) :: l)
   | none => none
  | none => none
def updD (k v : D) : List (D × D) -> Option (List (D × D))
 | [] => some [(k, v)]
 | (x, y) :: r => match zmf k x with
  | some true => some ((k, v) :: r)
  | some false => match updD k v r with
   | some l => some ((x, y) :: l)
   | none => none
  | none => none
def keyD (ti : TI) : D -> Bool
 | .int _ _ => ti.kind == 6
 | .str _ => ti.kind == 5
 | .agg l => ti.eqs && (zg3 ti.zero l l).isSome
 | _ => false
def zkf (cap : Int) (lo hi mx : Option D) : Option (Int × Int × Int × Bool) :=
 match hi, mx with
 | some (.int _ b), some (.int _ m) => match lo with
  | none => some (0, b, m, decide (0 <= b) && decide (b <= m) && decide (m <= cap))
  | some (.int _ a) => some (a, b, m, decide (0 <= a) && decide (a <= b) && decide (b <= m) && decide (m <= cap))
  | _ => none
 | _, _ => none
def aop (tab : Nat -> TI) (own : Bool) (o : Op) (nid : Nat) (g : Bool) (rd : Nat -> D) (hp : Nat -> Option Blk) : Option Out :=
 match o with
 | .move x | .assign x => match opd g rd x with
  | (d, p) => some { d, vc := p }
 | .pick c a b => match opd g rd c with
  | (.bool b0, p) => match opd (g && b0) rd a, opd (g && !b0) rd b with
   | (da, pa), (db, pb) => match zw4 b0 da db with
    | some d => some { d, vc := p && pa && pb }
    | none => none
  | _ => none
 | .binOp op t x y _ => match opd g rd x, opd g rd y with
  | (.agg l, px), (.agg l', py) => match zg3 (tab t).zero l l', op with
   | some r, .eql => some { d := .bool r, vc := px && py && (tab t).eqs }
   | some r, .neq => some { d := .bool !r, vc := px && py && (tab t).eqs }
   | _, _ => none
  | (dx, px), (dy, py) => match bin op dx dy with
   | some (d, p) => some { d, vc := px && py && (p || zk7 hp dx) && binT (tab t) (cstO x y) dx }
   | none => none
 | .unOp op _ x => match opd g rd x with
  | (.bool b, p) => match op with
   | .not => some { d := .bool !b, vc := p }
   | _ => none
  | (.int k n, p) => match op with
   | .neg => some { d := .int k (wr k (0 - n)), vc := p }
   | _ => none
  | _ => none
 | .convert t' t x => match opd g rd x with
  | (.int _ n, p) => match (tab t).ik with
   | some k => some { d := .int k (wr k n), vc := p && (tab t).kind == 6 && !((tab t').kind == 0) }
   | none => none
  | (.str l, p) => bif (tab t).kind == 5 then some { d := .str l, vc := p && !((tab t').kind == 0) }
   else some { d := .imm 1 (l.map ub) 10, vc := p && !((tab t').kind == 0) && (tab t).kind == 3 && (tab (tab t).el).ik == some .u8 && (tab (tab t).el).kind == 6 }
  | (d, p) => match srcD hp 1 d with
   | some (xs, _, q) => match zlw xs with
    | some l => some { d := .str l, vc := p && q && (tab t).kind == 5 && (tab t').kind == 3 && (tab (tab t').el).ik == some .u8 && (tab (tab t').el).kind == 6 }
    | none => none
   | none => none
 | .alloc t => some { d := .ptr nid 0, vc := !((tab t).kind == 0), eff := [(nid, some (.box (tab t).zero))], nw := (nid, nid + 1) }
 | .box _ x => match opd g rd x with
  | (d, p) => some { d := .ptr nid 0, vc := p && d.cells.all oneD && !d.cells.isEmpty, eff := [(nid, some (.box d.cells))], nw := (nid, nid + 1) }
 | .build t ps => match zoc g rd ps.toList with
  | (ds, p) => match zs6 (tab t).offs (tab t).zero ds with
   | some (c, q) => some { d := .agg c, vc := p && q && ((tab t).kind == 2 || (tab t).kind == 4) }
   | none => none
 | .buildSlice t n ps => match opds g rd (ps.toList.map (·.2)) with
  | (ds, p) => bif own && !ds.isEmpty then some { d := .ref nid (tab t).esz 0 ds.length (some ds.length), vc := p && (tab t).kind == 3 && zoj 0 n ps.toList && decide (n * (tab t).esz <= 16777216) && (ds.all fun d => Nat.beq d.cells.length (tab t).esz && d.cells.all oneD), eff := [(nid, some (.arr (tab t).el (tab t).esz (D.idsL ds).isEmpty ds))], nw := (nid, nid + 1) }
   else some { d := .imm (tab t).esz (unfL ds) (bif okML new1 ds then 9 else 1), vc := p && (tab t).kind == 3 && zoj 0 n ps.toList && decide (n * (tab t).esz <= 16777216) && (D.idsL ds).isEmpty && (ds.all fun d => Nat.beq d.cells.length (tab t).esz && d.cells.all oneD) && okML low3 ds }
 | .load t x => match opd g rd x with
  | (d, p) => match zro hp ((tab t).kind == 2) (tab t).size d with
   | some (r, q) => some { d := r, vc := p && q && (!((tab t).kind == 0) && !((tab t).kind == 4)) }
   | none => none
 | .store t x y => match opd g rd x, opd g rd y with
  | (dx, p), (dy, q) => match zo1 hp (tab t).size dy dx with
   | some (r, id, blk) => some { d := .undef, vc := p && q && r && !((tab t).kind == 0) && !((tab t).size == 0), eff := [(id, some blk)] }
   | none => none
 | .nilCheck x => match opd g rd x with
  | (.ptr id off, p) => some { d := .ptr id off, vc := p }
  | (.eptr id s i off, p) => some { d := .eptr id s i off, vc := p }
  | (.iptr m l, p) => some { d := .iptr m l, vc := p }
  | _ => none
 | .fieldAddr t x f => match opd g rd x, (tab t).offs[f]? with
  | (.ptr id off, p), some (o, _, _) => some { d := .ptr id (off + o), vc := p && (tab t).kind == 2 }
  | (.eptr id s i off, p), some (o, _, _) => some { d := .eptr id s i (off + o), vc := p && (tab t).kind == 2 }
  | (.iptr m l, p), some (o, _, _) => some { d := .iptr m (l.drop o), vc := p && Nat.ble o l.length && (tab t).kind == 2 }
  | _, _ => none
 | .field t x f => match opd g rd x, (tab t).offs[f]? with
  | (.agg l, p), some (o, n, agg) => match part agg n (l.drop o) with
   | some d => some { d, vc := p && Nat.ble (o + n) l.length && (tab t).kind == 2 }
   | none => none
  | _, _ => none
 | .indexAddr t x i => match opd g rd x, opd g rd i with
  | (.imm s l c, p), (.int _ n, q) => some { d := .iptr (c / 8) (nth l n.toNat).cells, vc := p && q && decide (0 <= n) && decide (n < l.length) && Nat.beq s (tab t).esz && (tab t).kind == 3 && Nat.blt (c / 8) 3 }
  | (.ref id s off len _, p), (.int _ n, q) => some { d := .eptr id s (off + n.toNat) 0, vc := p && q && decide (0 <= n) && decide (n < len) && Nat.beq s (tab t).esz && (tab t).kind == 3 }
  | (.ptr id off, p), (.int _ n, q) => some { d := .ptr id (off + n.toNat), vc := p && q && decide (0 <= n) && decide (n < (tab t).size) && (tab t).kind == 4 }
  | _, _ => none
 | .index t x i => match opd g rd x, opd g rd i with
  | (.str l, p), (.int _ n, q) => some { d := .int .u8 ((l.getD n.toNat 0).toNat : Int), vc := p && q && decide (0 <= n) && decide (n < l.length) && (tab t).kind == 5 }
  | _, _ => none
 | .slice t x lo hi none => match opd g rd x, opdO g rd lo, opdO g rd hi with
  | (.imm s l c, p), (lo, q), (hi, r) => match zgc l.length lo hi with
   | some (a, b, v) => some { d := .imm (tab t).esz ((l.take b.toNat).drop a.toNat) (bif c % 8 == 0 then c else c - c % 8 + 4), vc := p && q && r && v && (Nat.beq s (tab t).esz || l.isEmpty) && (tab t).kind == 3 }
   | none => none
  | (.ref id s off len oc, p), (lo, q), (hi, r) => match zgc len lo hi with
   | some (a, b, v) => some { d := .ref id s (off + a.toNat) (b - a).toNat (capS oc a.toNat), vc := p && q && r && (v || (hi.isSome && zvb hp id s off oc lo hi)) && Nat.beq s (tab t).esz && (tab t).kind == 3 }
   | none => none
  | (.str l, p), (lo, q), (hi, r) => match zgc l.length lo hi with
   | some (a, b, v) => some { d := .str ((l.take b.toNat).drop a.toNat), vc := p && q && r && v && (tab t).kind == 5 }
   | none => none
  | _, _, _ => none
 | .slice t x lo hi (some mx) => match opd g rd x, opdO g rd lo, opdO g rd hi, opd g rd mx with
  | (.imm s l c, p), (lo, q), (hi, r), (mx, u) => match zkf l.length lo hi (some mx) with
   | some (a, b, m, v) => some { d := .imm (tab t).esz ((l.take b.toNat).drop a.toNat) (bif c % 8 == 0 then c else bif m == b then (bif (c % 8 == 1 || c % 8 == 2) then c - c % 8 + 1 else c - c % 8 + 3) else c - c % 8 + 4), vc := p && q && r && u && v && (Nat.beq s (tab t).esz || l.isEmpty) && (tab t).kind == 3 }
   | none => none
  | (.ref id s off len oc, p), (lo, q), (hi, r), (mx, u) => match zkf (match oc with | some c => bif capK c then c else len | none => len) lo hi (some mx) with
   | some (a, b, m, v) => some { d := bif decide (a = m) && (Nat.blt 0 len || zk7 hp (.ref id s off len oc)) then .imm (tab t).esz [] 1 else .ref id s (off + a.toNat) (b - a).toNat (some (m - a).toNat), vc := p && q && r && u && v && Nat.beq s (tab t).esz && (tab t).kind == 3 }
   | none => none
  | _, _, _, _ => none
 | .extract x i => match opd g rd x with
  | (.tuple l, p) => match l[i]? with
   | some d => some { d, vc := p }
   | none => none
  | _ => none
 | .makeFunc f first caps => match f, first.toList, opds g rd caps.toList with
  | .func k, [], (ds, p) => some { d := .fn (.func k) ds, vc := p }
  | .func k, [x], ([], p) => match opd g rd x with
   | (d, q) => some { d := .fn (.yield k) [d], vc := p && q }
  | _, _, _ => none
 | .makeInterface t x => match opd g rd x with
  | (d, p) => some { d := .iface t d, vc := p && !((tab t).kind == 0) && !((tab t).kind == 7) }
 | .makeSlice t l c => match opd g rd l, opd g rd c with
  | (.int _ n, p), (.int _ m, q) => some { d := .ref nid (tab t).esz 0 n.toNat (some m.toNat), vc := p && q && decide (0 <= n) && decide (n <= m) && decide (m * (tab t).eby <= 140737488355328) && decide (m <= 9223372036854775807) && (tab t).kind == 3 && Nat.beq (tab t).ezero.length (tab t).esz && ((tab t).eagg || Nat.beq (tab t).esz 1), eff := [(nid, some (.arr (tab t).el (tab t).esz true (List.replicate n.toNat (zdp (tab t)))))], nw := (nid, nid + 1) }
  | _, _ => none
 | .makeMap t r => match opdO g rd r with
  | (none, p) => some { d := .mref nid, vc := p, eff := [(nid, some (.map []))], nw := (nid, nid + 1) }
  | (some (.int _ _), p) => some { d := .mref nid, vc := p && (tab t).kind == 9, eff := [(nid, some (.map []))], nw := (nid, nid + 1) }
  | _ => none
 | .lookup t x i ok => match opd g rd x, opd g rd i with
  | (.mref id, p), (k, q) => match hp id with
   | some (.map es) => match zs5 k es with
    | some r => some { d := bif ok then .tuple [r.getD (zdp (tab t)), .bool r.isSome] else r.getD (zdp (tab t)), vc := p && q && (tab t).kind == 9 && keyD (tab (tab t).el) k }
    | none => none
   | _ => none
  | (.nilmap, p), (k, q) => some { d := bif ok then .tuple [zdp (tab t), .bool false] else zdp (tab t), vc := p && q && (tab t).kind == 9 && keyD (tab (tab t).el) k }
  | _, _ => none
 | .mapUpdate t x i y | .insert t x i y => match opd g rd x, opd g rd i, opd g rd y with
  | (.mref id, p), (k, q), (v, r) => match hp id with
   | some (.map es) => match updD k v es with
    | some es' => some { d := .undef, vc := p && q && r && (tab t).kind == 9 && keyD (tab (tab t).el) k, eff := [(id, some (.map es'))] }
    | none => none
   | _ => none
  | _, _, _ => none
 | .call c => match c.callee, c.args.toList, c.argTypes.toList with
  | .builtin .len, [x], [t] => match opd g rd x with
   | (.imm _ l _, p) => some { d := .int .i64 l.length, vc := p && (tab t).kind == 3 }
   | (.ref _ _ _ len _, p) => some { d := .int .i64 len, vc := p && (tab t).kind == 3 }
   | (.str l, p) => some { d := .int .i64 l.length, vc := p && (tab t).kind == 5 }
   | _ => none
  | .builtin .cap, [x], [t] => match opd g rd x with
   | (.imm _ l c, p) => some { d := .int .i64 l.length, vc := p && (tab t).kind == 3 && (Nat.ble (c % 8) 1 || Nat.beq (c % 8) 3) }
   | (.ref _ _ _ _ (some c), p) => some { d := .int .i64 c, vc := p && (tab t).kind == 3 && capK c }
   | _ => none
  | .builtin .append, [s, x], [t, t'] => match opd g rd s, opd g rd x with
   | (ds, p), (dx, q) => match srcD hp (tab t).esz dx with
    | some (xs, px, vx) => match zhw hp (tab t).esz ds xs px vx with
     | some out => some { out with vc := p && q && out.vc && (tab t).kind == 3 && ((tab t').kind == 3 || (tab t').kind == 5) }
     | none => match zbv hp nid (tab t).el (tab t).esz (tab t).eby ds xs px vx with
      | some out => some { out with vc := p && q && out.vc && (tab t).kind == 3 && ((tab t').kind == 3 || (tab t').kind == 5) }
      | none => none
    | none => match zlo hp nid (tab t) ds dx with
     | some out => some { out with vc := p && q && out.vc && (tab t).kind == 3 && (tab t').kind == 6 }
     | none => none
  | .builtin .copy, [s, x], [t, _] => match opd g rd s, opd g rd x with
   | (.ref id s' off len _, p), (.ref id2 s2' off2 len2 _, q) => match hp id, hp id2 with
    | some (.arr e s'' pu items), some (.arr _ s2 px items2) => some { d := .int .i64 (Nat.min len2 len), vc := p && q && Nat.beq s' (tab t).esz && Nat.beq s'' (tab t).esz && Nat.beq s2' (tab t).esz && Nat.beq s2 (tab t).esz && Nat.ble off items.length && Nat.ble (off2 + Nat.min len2 len) items2.length && (tab t).kind == 3, eff := [(id, some (.arr e s'' (pu && px) (items.take off ++ (items2.drop off2).take (Nat.min len2 len) ++ items.drop (off + Nat.min len2 len))))] }
    | _, _ => none
   | (.ref id s' off len _, p), (dx, q) => match hp id, srcD hp (tab t).esz dx with
    | some (.arr e s'' pu items), some (xs, px, vx) => some { d := .int .i64 (Nat.min xs.length len), vc := p && q && vx && Nat.beq s' (tab t).esz && Nat.beq s'' (tab t).esz && Nat.ble (off + len) items.length && (tab t).kind == 3, eff := [(id, some (.arr e s'' (pu && px) (items.take off ++ xs.take len ++ items.drop (off + Nat.min xs.length len))))] }
    | _, _ => none
   | _, _ => none
  | .builtin .clear, [x], [t] => match opd g rd x with
   | (.imm _ [] _, p) => some { d := .tuple [], vc := p && (tab t).kind == 3 }
   | (.ref id s off len _, p) => match hp id with
    | some (.arr e s' pu items) => some { d := .tuple [], vc := p && (tab t).kind == 3 && Nat.beq s (tab t).esz && Nat.beq s' s && Nat.ble (off + len) items.length && Nat.beq (tab t).ezero.length (tab t).esz && ((tab t).eagg || Nat.beq (tab t).esz 1), eff := [(id, some (.arr e s' pu (items.take off ++ List.replicate len (zdp (tab t)) ++ items.drop (off + len))))] }
    | _ => none
   | _ => none
  | .builtin .max, [x, y], _ => match opd g rd x, opd g rd y with
   | (.int k a, p), (.int k' b, q) => bif decide (k = k') then some { d := .int k (max a b), vc := p && q } else none
   | _, _ => none
  | .builtin .min, [x, y], _ => match opd g rd x, opd g rd y with
   | (.int k a, p), (.int k' b, q) => bif decide (k = k') then some { d := .int k (min a b), vc := p && q } else none
   | _, _ => none
  | .builtin .delete, [x, i], [t, _] => match opd g rd x, opd g rd i with
   | (.mref id, p), (k, q) => match hp id with
    | some (.map es) => match delD k es with
     | some es' => some { d := .tuple [], vc := p && q && (tab t).kind == 9 && keyD (tab (tab t).el) k, eff := [(id, some (.map es'))] }
     | none => none
    | _ => none
   | _, _ => none
  | _, _, _ => none
 | _ => none
end Go.Tm
namespace Go.Tm
open Go.RowKit Go.WideShapes
theorem ya11 {C : Cx} (v : Value) (h : ya2s v = true) : rep C (zvi v) v := by
 unfold zvi
 split
 simp only [rep]
 simp [ya2s] at h; simp only [rep]; exact ⟨trivial, h.1, h.2⟩
 simp only [ya2s, decide_eq_true_eq] at h; simp only [rep]; exact ⟨trivial, h⟩
 simp only [rep]; exact ⟨none, 0, rfl, by simp⟩
 simp only [rep]
 simp only [rep]
 simp only [rep]
 simp only [rep]
 simp only [rep]
def zcz : Operand -> Bool
 | .const v => ya2s v
 | _ => true
theorem zy4 {C : Cx} {a : Act} {rd : Nat -> D} (h : ∀ t, rep C (rd t) (a.eval (.tmp t))) (x : Operand) (hx : zcz x = true) : rep C (ev rd x) (a.eval x) := by
 cases x with
 | tmp t => exact h t
 | const v => exact ya11 v hx
 | global g => simp only [ev, rep]
 | func f => simp only [ev, rep, Act.eval, reps]; exact ⟨[], rfl, rfl⟩
theorem zjt {C : Cx} {a : Act} {rd : Nat -> D} {g : Bool} {x : Operand} {d : D} {p : Bool} (h : ∀ t, rep C (rd t) (a.eval (.tmp t))) (hx : zcz x = true)
  (ho : opd g rd x = (d, p)) (hp : p = true) (hg : g = true) : rep C d (a.eval x) := by
 have h1 := zy4 h x hx
 unfold opd at ho
 split at ho
 rename_i c d' he
 cases ho
 rw [he] at h1
 simp only [rep] at h1
 subst hg
 exact h1.1 (by simpa using hp)
 cases ho; exact h1
def opOk (o : Op) : Bool := o.operands.toList.all zcz
def zfd (P : Program) (C : Cx) (a : Act) (o : Oper) (d : D) (w : World) : Prop := ∃ v, (execOp a.eval o).run P w = .ok (.value v) w /\ rep C d v
section
variable {P : Program} {C : Cx} {a : Act} {w : World} {rd : Nat -> D} (hr : ∀ t, rep C (rd t) (a.eval (.tmp t)))
include hr
theorem ya47 {o : Oper} {x : Operand} {d : D} {p : Bool} (ho : o.op = .move x \/ o.op = .assign x) (hx : zcz x = true) (h : opd true rd x = (d, p)) (hp : p = true) :
  zfd P C a o d w := by
 refine ⟨a.eval x, ?_, zjt hr hx h hp rfl⟩
 rcases ho with ho | ho <;> (unfold execOp; simp only [ho]; rfl)
theorem ya7d {o : Oper} {c x y : Operand} {b0 : Bool} {p pa pb : Bool} {da db d : D} (ho : o.op = .pick c x y) (hc : zcz c = true) (hx : zcz x = true) (hy : zcz y = true)
  (h : opd true rd c = (.bool b0, p)) (hp : p = true) (ha : opd b0 rd x = (da, pa)) (hpa : pa = true) (hb : opd (!b0) rd y = (db, pb)) (hpb : pb = true) (hd : zw4 b0 da db = some d) :
  zfd P C a o d w := by
 have h1 := zjt hr hc h hp rfl
 simp only [rep] at h1
 refine ⟨if b0 then a.eval x else a.eval y, ?_, ?_⟩
 unfold execOp; simp [ho, h1, asBool]
 cases b0
 have := zjt hr hy hb hpb rfl
 unfold zw4 at hd
 split at hd
 cases hd; simpa using this
 rename_i k n k' n'; cases hk : decide (k = k') <;> simp [hk] at hd; subst hd; simp at hk; subst hk; simpa using this
 cases hd; simpa using this
 cases hd; simpa using this
 have := zjt hr hx ha hpa rfl
 unfold zw4 at hd
 split at hd
 cases hd; simpa using this
 rename_i k n k' n'; cases hk : decide (k = k') <;> simp [hk] at hd; subst hd; simpa using this
 cases hd; simpa using this
 cases hd; simpa using this
end
theorem zlz (k : IntKind) (n : Int) : k.min <= k.wrap n /\ k.wrap n <= k.max := by
 cases k <;> simp [IntKind.wrap, IntKind.min, IntKind.max, IntKind.signed, IntKind.bits] <;> (try split) <;> omega
theorem ya4p (k : IntKind) (a b : Int) (ha : k.min <= a /\ a <= k.max) : k.min <= a.tmod b /\ a.tmod b <= k.max := by
 have h1 : k.min <= 0 /\ 0 <= k.max := by cases k <;> simp [IntKind.min, IntKind.max, IntKind.signed, IntKind.bits]
 have h2 : (a.tmod b).natAbs <= a.natAbs := by rw [Int.natAbs_tmod]; exact Nat.mod_le _ _
 rcases Int.le_total 0 a with h | h
 have := Int.tmod_nonneg b h
 omega
 have h3 : a.tmod b = -((-a).tmod b) := by rw [Int.neg_tmod]; omega
 have := Int.tmod_nonneg b (a := -a) (by omega)
 omega
theorem ya0w {P : Program} {C : Cx} {w : World} {op : BinOp} {t : TypeId} {k : IntKind} {n m : Int} {d : D} {p : Bool} (h : ya04 op k n m = some (d, p)) (hp : p = true)
  (hn : k.min <= n /\ n <= k.max) : ∃ v, (binOp op t (.int k n) (.int k m)).run P w = .ok v w /\ rep C d v := by
 unfold ya04 at h
 split at h <;> (try cases h)
 all_goals (simp only [go_sem, Sem.run_pure, Op.intArith, Op.intDiv])
 exact ⟨_, rfl, by simp only [rep, wr]; exact ⟨trivial, zlz _ _⟩⟩
 exact ⟨_, rfl, by simp only [rep, wr]; exact ⟨trivial, zlz _ _⟩⟩
 exact ⟨_, rfl, by simp only [rep, wr]; exact ⟨trivial, zlz _ _⟩⟩
 rw [if_neg (by simpa using hp)]; exact ⟨_, rfl, by simp only [rep, wr]; exact ⟨trivial, zlz _ _⟩⟩
 rw [if_neg (by simpa using hp)]; exact ⟨_, rfl, by simp only [rep]; exact ⟨trivial, ya4p _ _ _ hn⟩⟩
 all_goals (refine ⟨_, rfl, ?_⟩; simp only [rep])
 all_goals (simp only [bitw, bits]; exact ⟨trivial, zlz _ _⟩)
theorem ya5j (k : IntKind) (a : Int) (n : Nat) (ha : k.min <= a /\ a <= k.max) : k.min <= a.fdiv (2 ^ n) /\ a.fdiv (2 ^ n) <= k.max := by
 have h1 : k.min <= 0 /\ 0 <= k.max := by cases k <;> simp [IntKind.min, IntKind.max, IntKind.signed, IntKind.bits]
 have hp : (1 : Int) <= 2 ^ n := by
  have := Nat.one_le_two_pow (n := n)
  exact_mod_cast this
 rw [Int.fdiv_eq_ediv_of_nonneg _ (by omega)]
 rcases Int.le_total 0 a with h | h
 have h2 := Int.ediv_nonneg h (show (0 : Int) <= 2 ^ n by omega)
 have h3 := Int.ediv_le_self (2 ^ n) h
 omega
 have h2 : a <= a / 2 ^ n := by
  rw [Int.le_ediv_iff_mul_le (by omega)]
  have := Int.mul_le_mul_of_nonpos_left h hp
  omega
 have h3 : a / 2 ^ n <= 0 := Int.ediv_nonpos_of_nonpos_of_neg h (by omega)
 omega
theorem zv8 {P : Program} {C : Cx} {w : World} {t : TypeId} {k k' : IntKind} {n m : Int} (l : Bool) (h : 0 <= m) (hn : k.min <= n /\ n <= k.max) :
  ∃ v, (binOp (bif l then .shl else .shr) t (.int k n) (.int k' m)).run P w = .ok v w /\ rep C (.int k (shw l k n m)) v := by
 cases l
 refine ⟨.int k (shw false k n m), ?_, by simp only [rep]; exact ⟨trivial, by simp only [shw, cond_false]; exact ya5j _ _ _ hn⟩⟩
 show (Op.shift .shr k n k' m).run P w = _
 simp only [Op.shift, if_neg (show ¬ m < 0 by omega), shw, cond_false]
 rfl
 refine ⟨.int k (shw true k n m), ?_, by simp only [rep]; exact ⟨trivial, by simp only [shw, cond_true]; exact zlz _ _⟩⟩
 show (Op.shift .shl k n k' m).run P w = _
 simp only [Op.shift, if_neg (show ¬ m < 0 by omega), shw, cond_true]
 rfl
theorem zt1 (l : List UInt8) : (⟨l.toArray⟩ : ByteArray).toList = l := by
 rw [ByteArray.toList_eq]
theorem zzj {P : Program} {C : Cx} {w : World} {op : BinOp} {t : TypeId} {x y : List UInt8} {d : D} {p : Bool} (h : zr2 op x y = some (d, p)) (hp : p = true) :
  ∃ v, (binOp op t (.string ⟨x.toArray⟩) (.string ⟨y.toArray⟩)).run P w = .ok v w /\ rep C d v := by
 have hb : binOp op t (.string ⟨x.toArray⟩) (.string ⟨y.toArray⟩) = Op.stringOp op ⟨x.toArray⟩ ⟨y.toArray⟩ := by
  cases op <;> simp [binOp] <;> simp [zr2] at h
 rw [hb]
 unfold zr2 at h
 split at h <;> (try cases h)
 all_goals (simp only [Op.stringOp, zt1])
 rw [if_neg (by simpa [ByteArray.size, IntKind.max_i64] using hp)]
 exact ⟨_, rfl, by simp only [rep]; refine ⟨?_, by simpa using hp⟩; congr 1⟩
 all_goals exact ⟨_, rfl, by simp only [rep]⟩
theorem zfp (op : BinOp) (t : TypeId) (x y : Operand) (u v : Value) (h : (∀ l, u ≠ .agg l) /\ u ≠ .nilIface) : eqGuard op t x y u v = pure () := by
 cases u <;> first | exact absurd rfl (h.1 _) | exact absurd rfl h.2 | skip
 all_goals (cases op <;> rfl)
theorem zr6 {P : Program} {w : World} {t : TypeId} (a b : Bool) (ht : P.underlying t = some .bool) : (Op.equal t (.bool a) (.bool b)).run P w = .ok (a == b) w := by
 have : ∀ d, (Op.equalIn (d + 1) t (.bool a) (.bool b)).run P w = .ok (a == b) w := fun d => by
  simp [Op.equalIn, run_underlying ht]
 exact this 9999
theorem zjp {P : Program} {w : World} {t e : TypeId} (a : Option Addr) (n m n' m' : Nat) (ht : P.underlying t = some (.slice e)) : (Op.equal t (.slice a n m) (.slice none n' m')).run P w = .ok a.isNone w := by
 have : ∀ d, (Op.equalIn (d + 1) t (.slice a n m) (.slice none n' m')).run P w = .ok a.isNone w := fun d => by
  cases a <;> simp [Op.equalIn, run_underlying ht]
 exact this 9999
theorem zr4 {P : Program} {w : World} {t : TypeId} {m} (ht : P.underlying t = some (.interface m)) : (Op.equal t .nilIface .nilIface).run P w = .ok true w := by
 have : ∀ d, (Op.equalIn (d + 1) t .nilIface .nilIface).run P w = .ok true w := fun d => by
  simp [Op.equalIn, run_underlying ht]
 exact this 9999
theorem zr5 {P : Program} {w : World} {t ty : TypeId} {v : Value} {m} (ht : P.underlying t = some (.interface m)) : (Op.equal t (.iface ty v) .nilIface).run P w = .ok false w := by
 have : ∀ d, (Op.equalIn (d + 1) t (.iface ty v) .nilIface).run P w = .ok false w := fun d => by
  simp [Op.equalIn, run_underlying ht]
 exact this 9999
theorem ya8n {P : Program} {C : Cx} {w : World} {o : Oper} {a : Act} {op : BinOp} {t ty : TypeId} {x y : Operand} {dx dy d : D} {p : Bool} (ho : o.op = .binOp op t x y ty)
  (h : bin op dx dy = some (d, p)) (hp : p = true \/ ∃ id s off len oc, dx = .ref id s off len oc /\ ∀ ad cap, a.eval x = .slice ad len cap -> 0 < cap) (hu : rep C dx (a.eval x)) (hv : rep C dy (a.eval y))
  (ht : ∀ s l c s' c', dx = .imm s l c -> dy = .imm s' [] c' -> ∃ e, P.underlying t = some (.slice e)) (ht' : ∀ id s off len oc, dx = .ref id s off len oc -> ∃ e, P.underlying t = some (.slice e)) (hb : ∀ b, dx = .bool b -> P.underlying t = some .bool)
  (hi : dx = .nilIface -> cstO x y = true /\ ∃ m, P.underlying t = some (.interface m)) (hi' : ∀ ty' d', dx = .iface ty' d' -> ∃ m, P.underlying t = some (.interface m)) :
  zfd P C a o d w := by
 unfold zfd execOp
 simp only [ho]
 generalize a.eval x = u at *
 generalize a.eval y = v at *
 unfold bin at h
 split at h
 rename_i k n k' m
 replace hp : p = true := hp.resolve_right (by rintro ⟨_, _, _, _, _, h, _⟩; cases h)
 simp only [rep] at hu hv
 obtain ⟨rfl, hn⟩ := hu
 obtain ⟨rfl, hm⟩ := hv
 split at h
 cases h
 obtain ⟨v, hr, hrep⟩ := zv8 (P := P) (C := C) (w := w) (t := t) (k' := k') true (of_decide_eq_true hp) hn
 refine ⟨v, ?_, hrep⟩
 rw [zfp _ _ _ _ _ _ ⟨by simp, by simp⟩]
 simp only [cond_true] at hr
 simp only [pure_bind, Sem.run_bind, hr, Result.andThen_ok, Sem.run_pure]
 cases h
 obtain ⟨v, hr, hrep⟩ := zv8 (P := P) (C := C) (w := w) (t := t) (k' := k') false (of_decide_eq_true hp) hn
 refine ⟨v, ?_, hrep⟩
 rw [zfp _ _ _ _ _ _ ⟨by simp, by simp⟩]
 simp only [cond_false] at hr
 simp only [pure_bind, Sem.run_bind, hr, Result.andThen_ok, Sem.run_pure]
 cases hk : decide (k = k')
 rw [hk] at h; cases h
 rw [hk] at h; simp at hk; subst hk
 obtain ⟨v, hr, hrep⟩ := ya0w (P := P) (C := C) (w := w) (t := t) h hp hn
 refine ⟨v, ?_, hrep⟩
 rw [zfp _ _ _ _ _ _ ⟨by simp, by simp⟩]
 simp [hr]
 replace hp : p = true := hp.resolve_right (by rintro ⟨_, _, _, _, _, h, _⟩; cases h)
 simp only [rep] at hu hv
 obtain ⟨rfl, hn⟩ := hu
 obtain ⟨rfl, hm⟩ := hv
 obtain ⟨v, hr, hrep⟩ := zzj (P := P) (C := C) (w := w) (t := t) h hp
 refine ⟨v, ?_, hrep⟩
 rw [zfp _ _ _ _ _ _ ⟨by simp, by simp⟩]
 simp [hr]
 rename_i b b'
 simp only [rep] at hu hv
 subst hu hv
 have hbt := hb b rfl
 split at h <;> (try cases h)
 refine ⟨.bool (b == b'), ?_, by simp only [rep]⟩
 rw [zfp _ _ _ _ _ _ ⟨by simp, by simp⟩]
 simp only [binOp, pure_bind, Sem.run_bind, Sem.run_pure, zr6 _ _ hbt, Result.andThen_ok]
 refine ⟨.bool (!(b == b')), ?_, by simp only [rep]⟩
 rw [zfp _ _ _ _ _ _ ⟨by simp, by simp⟩]
 simp only [binOp, pure_bind, Sem.run_bind, Sem.run_pure, zr6 _ _ hbt, Result.andThen_ok]
 rename_i s l c s'
 replace hp : p = true := hp.resolve_right (by rintro ⟨_, _, _, _, _, h, _⟩; cases h)
 simp only [rep] at hu hv
 obtain ⟨a1, cap, rfl, h1, h2, h3, h4, h5, h6, h7⟩ := hu
 obtain ⟨a2, cap', rfl, g1, g2, g3, g4, g5, g6, g7⟩ := hv
 obtain ⟨e, he⟩ := ht s l c s' 0 rfl rfl
 have ha2 : a2 = none := g3 trivial
 subst ha2
 have key : ∀ (hc : c % 8 <= 2), (Op.equal t (.slice a1 l.length cap) (.slice none 0 cap')).run P w = .ok (c % 8 == 0) w := by
  intro hc
  cases a1 with
  | none =>
   have : c % 8 = 0 := by
    rcases Nat.lt_or_ge (c % 8) 1 with h | h
    omega
    exact absurd rfl (h4 (by omega))
   simp [zjp _ _ _ _ _ he, this]
  | some a0 =>
   have : c % 8 ≠ 0 := fun e => by have := h3 e; cases this
   simp [zjp _ _ _ _ _ he, this]
 have gd : eqGuard op t x y (.slice a1 l.length cap) (.slice none 0 cap') = pure () := zfp _ _ _ _ _ _ ⟨by simp, by simp⟩
 simp only [zac]
 split at h <;> (try cases h)
 refine ⟨.bool (c % 8 == 0), ?_, by simp only [rep]⟩
 rw [gd]
 simp only [binOp, pure_bind, Sem.run_bind, Sem.run_pure, key (lb hp), Result.andThen_ok]
 refine ⟨.bool (!(c % 8 == 0)), ?_, by simp only [rep]⟩
 rw [gd]
 simp only [binOp, pure_bind, Sem.run_bind, Sem.run_pure, key (lb hp), Result.andThen_ok]
 rename_i id s off len oc s'
 simp only [rep] at hu hv
 obtain ⟨_, a1, cap, rfl, h1, h2, h3, h4, h5⟩ := hu
 obtain ⟨a2, cap', rfl, g1, g2, g3, g4, g5, g6, g7⟩ := hv
 obtain ⟨e, he⟩ := ht' id s off len oc rfl
 have ha2 : a2 = none := g3 trivial
 subst ha2
 have hpos : ∀ {p : Bool}, (p = true \/ ∃ id' s' off' len' oc', D.ref id s off len oc = .ref id' s' off' len' oc' /\ ∀ ad cap', Value.slice a1 len cap = .slice ad len' cap' -> 0 < cap') -> (p = true -> 0 < len) -> 0 < cap := by
  rintro p (hp | ⟨id', s', off', len', oc', e, hc⟩) hl
  have := hl hp; omega
  cases e
  exact hc a1 cap rfl
 have key : 0 < cap -> (Op.equal t (.slice a1 len cap) (.slice none 0 cap')).run P w = .ok false w := by
  intro hc
  cases a1 with
  | none => have := h3 rfl; omega
  | some a0 => simp [zjp _ _ _ _ _ he]
 have gd : eqGuard op t x y (.slice a1 len cap) (.slice none 0 cap') = pure () := zfp _ _ _ _ _ _ ⟨by simp, by simp⟩
 simp only [zac]
 split at h <;> (try cases h)
 refine ⟨.bool false, ?_, by simp only [rep]⟩
 rw [gd]
 simp only [binOp, pure_bind, Sem.run_bind, Sem.run_pure, key (hpos hp lb), Result.andThen_ok]
 refine ⟨.bool true, ?_, by simp only [rep]⟩
 rw [gd]
 simp only [binOp, pure_bind, Sem.run_bind, Sem.run_pure, key (hpos hp lb), Result.andThen_ok, Bool.not_false]
 simp only [rep] at hu hv
 subst hu hv
 obtain ⟨hc, m, hm⟩ := hi rfl
 have gd : ∀ op, eqGuard op t x y .nilIface .nilIface = pure () := fun op => by
  cases op <;> cases x <;> cases y <;> first | rfl | (simp [cstO] at hc)
 split at h <;> (try cases h)
 exact ⟨.bool true, by rw [gd]; simp only [binOp, pure_bind, Sem.run_bind, Sem.run_pure, zr4 hm, Result.andThen_ok], by simp only [rep]⟩
 exact ⟨.bool false, by rw [gd]; simp only [binOp, pure_bind, Sem.run_bind, Sem.run_pure, zr4 hm, Result.andThen_ok, Bool.not_true], by simp only [rep]⟩
 rename_i ty' d'
 simp only [rep] at hu hv
 obtain ⟨u, rfl, _⟩ := hu
 subst hv
 obtain ⟨m, hm⟩ := hi' _ _ rfl
 have gd : ∀ op, eqGuard op t x y (.iface ty' u) .nilIface = pure () := fun op => by cases op <;> rfl
 split at h <;> (try cases h)
 exact ⟨.bool false, by rw [gd]; simp only [binOp, pure_bind, Sem.run_bind, Sem.run_pure, zr5 hm, Result.andThen_ok], by simp only [rep]⟩
 exact ⟨.bool true, by rw [gd]; simp only [binOp, pure_bind, Sem.run_bind, Sem.run_pure, zr5 hm, Result.andThen_ok, Bool.not_false], by simp only [rep]⟩
 cases h
theorem ya8j {P : Program} {C : Cx} {w : World} {o : Oper} {a : Act} {t : TypeId} {x : Operand} {b : Bool} (ho : o.op = .unOp .not t x) (hu : rep C (.bool b) (a.eval x)) :
  zfd P C a o (.bool !b) w := by
 simp only [rep] at hu
 exact ⟨.bool !b, by unfold execOp; simp [ho, hu, Op.unary], by simp only [rep]⟩
theorem ya8k {P : Program} {C : Cx} {w : World} {o : Oper} {a : Act} {t : TypeId} {x : Operand} {k : IntKind} {n : Int} (ho : o.op = .unOp .neg t x) (hu : rep C (.int k n) (a.eval x)) :
  zfd P C a o (.int k (wr k (0 - n))) w := by
 simp only [rep] at hu
 obtain ⟨hu, _⟩ := hu
 exact ⟨.int k (k.wrap (0 - n)), by unfold execOp; simp [ho, hu, Op.unary, Op.intArith], by simp only [rep, wr]; exact ⟨trivial, zlz _ _⟩⟩
theorem zci {P : Program} {t : TypeId} {ti : TI} (h : zd0 P t ti = true) : ∃ i d, P.info? t = some i /\ P.underlying t = some d /\ i.size = ti.size /\ (∃ z, i.zero = some z /\ zf5 ti.zero z.cells.toList = true) /\
  (match d with
  | .struct fs => ti.kind = 2 /\ ti.offs = fs.toList.map (fun f => (f.offset, P.cellsOf f.type, zng P f.type)) /\ ∀ f ∈ fs.toList, (P.info? f.type).isSome = true /\ (P.underlying f.type).isSome = true /\ P.cellsOf f.type ≠ 0
  | .slice e => ti.kind = 3 /\ (∃ j, P.info? e = some j /\ j.size = ti.esz /\ j.bytes = ti.eby /\ j.bytes ≠ 0 /\ j.size ≠ 0 /\ (∃ z, j.zero = some z /\ z.cells.size = j.size /\ zf5 ti.ezero z.cells.toList = true /\ zoh z = ti.eagg)) /\ ti.el = e /\ zng P e = ti.eagg
  | .array n e => ti.kind = 4 /\ (∃ j, P.info? e = some j /\ j.size = 1) /\ ti.size = n /\ ti.offs = (List.range n).map (fun i => (i, 1, false))
  | .string => ti.kind = 5
  | .int k => ti.kind = 6 /\ ti.ik = some k
  | .pointer _ | .func _ _ _ => ti.kind = 1
  | .bool => ti.kind = 8
  | .interface _ => ti.kind = 7
  | .map k v => ti.kind = 9 /\ ti.el = k /\ (∃ j, P.info? v = some j /\ j.size = ti.esz /\ ∃ z, j.zero = some z /\ zf5 ti.ezero z.cells.toList = true /\ zoh z = ti.eagg) /\ zng P v = ti.eagg
  | _ => False) := by
 unfold zd0 at h
 split at h
 ·rename_i i d hi hd
  simp only [za0, beq_iff_eq] at h
  obtain ⟨⟨h1, h2⟩, h3⟩ := h
  refine ⟨i, d, hi, hd, h1, ?_, ?_⟩
  split at h2
  rename_i z hz; exact ⟨z, hz, h2⟩
  cases h2
  ·cases d <;> simp only [za0, beq_iff_eq, zan] at h3 ⊢ <;> try exact h3
   case slice e =>
    obtain ⟨⟨⟨k1, k2⟩, k4⟩, k3⟩ := h3
    refine ⟨k1, ?_, k4, k3⟩
    split at k2
    rename_i j hj
    simp only [za0, beq_iff_eq, bne_iff_ne] at k2
    refine ⟨j, hj, k2.1.1.1.1, k2.1.1.1.2, k2.1.1.2, k2.1.2, ?_⟩
    have k5 := k2.2
    split at k5
    rename_i z hz
    simp only [za0, beq_iff_eq] at k5
    exact ⟨z, hz, k5.1.1, k5.1.2, k5.2⟩
    cases k5
    cases k2
   case struct fs =>
    obtain ⟨⟨k1, k2⟩, k3⟩ := h3
    refine ⟨k1, k2, fun f hf => ?_⟩
    have := List.all_eq_true.1 k3 f hf
    simp only [za0, bne_iff_ne] at this
    exact ⟨this.1.1, this.1.2, this.2⟩
   case array n e =>
    obtain ⟨⟨⟨k1, k2⟩, k3⟩, k4⟩ := h3
    refine ⟨k1, ?_, k3, k4⟩
    split at k2
    rename_i j hj; exact ⟨j, hj, by simpa using k2⟩
    cases k2
   case map k v =>
    obtain ⟨⟨⟨k1, k2⟩, k4⟩, k5⟩ := h3
    refine ⟨k1, k2, ?_, k5⟩
    split at k4
    rename_i j hj
    simp only [za0, beq_iff_eq] at k4
    refine ⟨j, hj, k4.1, ?_⟩
    have k5 := k4.2
    split at k5
    rename_i z hz
    simp only [za0, beq_iff_eq] at k5
    exact ⟨z, hz, k5⟩
    cases k5
    cases k4
 cases h
theorem zqx {P : Program} {t : TypeId} {ti : TI} (h : zd0 P t ti = true) (hk : ti.kind = 2) : ∃ i fs, P.info? t = some i /\ P.underlying t = some (.struct fs) /\ i.size = ti.size /\
  ti.offs = fs.toList.map (fun f => (f.offset, P.cellsOf f.type, zng P f.type)) /\ ∀ f ∈ fs.toList, (P.info? f.type).isSome = true /\ (P.underlying f.type).isSome = true /\ P.cellsOf f.type ≠ 0 := by
 obtain ⟨i, d, hi, hd, hs, _, hm⟩ := zci h
 cases d <;> simp only [hk] at hm <;> try (first | exact hm.elim | (exfalso; omega) | (exfalso; have := hm.1; omega))
 exact ⟨i, _, hi, hd, hs, hm.2.1, hm.2.2⟩
theorem zcj {P : Program} {t : TypeId} {ti : TI} (h : zd0 P t ti = true) (hk : ti.kind = 3) : ∃ e j, P.underlying t = some (.slice e) /\ P.info? e = some j /\ j.size = ti.esz /\ j.bytes = ti.eby /\ j.bytes ≠ 0 /\ j.size ≠ 0 /\ (∃ z, j.zero = some z /\ z.cells.size = j.size /\ zf5 ti.ezero z.cells.toList = true /\ zoh z = ti.eagg) /\ ti.el = e := by
 obtain ⟨i, d, hi, hd, hs, _, hm⟩ := zci h
 cases d <;> simp only [hk] at hm <;> try (first | exact hm.elim | (exfalso; omega) | (exfalso; have := hm.1; omega))
 obtain ⟨_, ⟨j, hj⟩, hel, _⟩ := hm
 exact ⟨_, j, hd, hj.1, hj.2.1, hj.2.2.1, hj.2.2.2.1, hj.2.2.2.2.1, hj.2.2.2.2.2, hel⟩
theorem zij {P : Program} {t : TypeId} {ti : TI} (h : zd0 P t ti = true) (hk : ti.kind = 5) : P.underlying t = some .string := by
 obtain ⟨i, d, hi, hd, hs, _, hm⟩ := zci h
 cases d <;> simp only [hk] at hm <;> try (first | exact hm.elim | (exfalso; omega) | (exfalso; have := hm.1; omega))
 exact hd
theorem ya4r {P : Program} {t : TypeId} {ti : TI} (h : zd0 P t ti = true) (hk : ti.kind = 8) : P.underlying t = some .bool := by
 obtain ⟨i, d, hi, hd, hs, _, hm⟩ := zci h
 cases d <;> simp only [hk] at hm <;> try (first | exact hm.elim | (exfalso; omega) | (exfalso; have := hm.1; omega))
 exact hd
theorem zxw {P : Program} {t : TypeId} {ti : TI} (h : zd0 P t ti = true) (hk : ti.kind = 7) : ∃ m, P.underlying t = some (.interface m) := by
 obtain ⟨i, d, hi, hd, hs, _, hm⟩ := zci h
 cases d <;> simp only [hk] at hm <;> try (first | exact hm.elim | (exfalso; omega) | (exfalso; have := hm.1; omega))
 exact ⟨_, hd⟩
theorem ya0r {P : Program} {t : TypeId} {ti : TI} {k : IntKind} (h : zd0 P t ti = true) (hk : ti.kind = 6) (hi : ti.ik = some k) : P.underlying t = some (.int k) := by
 obtain ⟨i, d, _, hd, hs, _, hm⟩ := zci h
 cases d <;> simp only [hk] at hm <;> try (first | exact hm.elim | (exfalso; omega) | (exfalso; have := hm.1; omega))
 rw [hi] at hm
 cases hm.2
 exact hd
theorem zxx {P : Program} {t : TypeId} {ti : TI} (h : zd0 P t ti = true) (hk : ti.kind = 4) : ∃ n e j, P.underlying t = some (.array n e) /\ P.info? e = some j /\ j.size = 1 /\ ti.size = n /\ ti.offs = (List.range n).map (fun i => (i, 1, false)) := by
 obtain ⟨i, d, hi, hd, hs, _, hm⟩ := zci h
 cases d <;> simp only [hk] at hm <;> try (first | exact hm.elim | (exfalso; omega) | (exfalso; have := hm.1; omega))
 obtain ⟨_, ⟨j, h1, h2⟩, h3, h4⟩ := hm
 exact ⟨_, _, j, hd, h1, h2, h3, h4⟩
theorem ya0q {P : Program} {w : World} {t : TypeId} {ti : TI} (h : zd0 P t ti = true) : (ti.kind ≠ 4 -> (isAgg t).run P w = .ok (ti.kind == 2) w) /\ (sizeOf t).run P w = .ok ti.size w := by
 obtain ⟨i, d, hi, hd, hs, _, hm⟩ := zci h
 constructor
 intro h4
 unfold Go.isAgg
 rw [Sem.run_bind, run_underlying hd]
 cases d <;> simp only at hm ⊢ <;> first | exact hm.elim | exact absurd hm.1 h4 | simp [hm]
 simp [sizeOf, typeInfo, hi, hs]
theorem zhc {C : Cx} : ∀ (l : List D) (k b o s : Nat), elems C l b o s -> elems C (l.drop k) b (o + k * s) s
 | l, 0, b, o, s, h => by simpa using h
 | [], k + 1, b, o, s, h => by simp only [List.drop_nil, elems]
 | d :: ds, k + 1, b, o, s, h => by
  simp only [elems] at h
  have := zhc ds k b (o + s) s h.2
  rw [List.drop_succ_cons]
  rwa [show o + (k + 1) * s = o + s + k * s by rw [Nat.succ_mul]; omega]
theorem zw2 {C : Cx} {l : List D} {i b o s : Nat} (h : elems C l b o s) (hi : i < l.length) : ∃ v, rep C (nth l i) v /\ v.cells.size = s /\ C.w.rangeAt b (o + i * s) v.cells.toList := by
 have := zhc l i b o s h
 rw [za7 hi] at this
 simp only [elems] at this
 obtain ⟨⟨v, h1, h2, _, h3⟩, _⟩ := this
 refine ⟨v, ?_, h2, h3⟩
 unfold nth
 simpa [List.getD, hi] using h1
theorem zmj {C : Cx} : ∀ {l : List D} {vs : List Value} {b o : Nat}, reps C l vs -> C.w.rangeAt b o vs -> cels C l b o
 | [], _, _, _, _, _ => by simp only [cels]
 | d :: ds, vs, b, o, hr, h => by
  simp only [reps] at hr
  obtain ⟨v, vs', rfl, hd, hds⟩ := hr
  simp only [cels]
  refine ⟨⟨v, hd, h 0 v rfl⟩, zmj hds fun j u hj => ?_⟩
  have := h (j + 1) u (by simpa using hj)
  rwa [show o + 1 + j = o + (j + 1) by omega]
theorem zsi {C : Cx} {d : D} {v : Value} {b o : Nat} (hr : rep C d v) (h : C.w.rangeAt b o v.cells.toList) (hs : v.cells.size ≠ 0) : cels C d.cells b o := by
 cases d with
 | agg l =>
  simp only [rep] at hr
  obtain ⟨cs, rfl, hc⟩ := hr
  exact zmj hc (by simpa [Value.cells] using h)
 | tuple l => simp only [D.cells, cels]
 | «when» c d => simp only [D.cells, cels]
 | undef => simp only [D.cells, cels]
 | _ =>
  have hv : v.cells = #[v] := by
   simp only [rep] at hr
   first
    | (subst hr; rfl)
    | (obtain ⟨cs, rfl, _⟩ := hr; exact zmi _ _)
    | (obtain ⟨rfl, _⟩ := hr; rfl)
    | (obtain ⟨_, _, rfl, _⟩ := hr; rfl)
    | (obtain ⟨_, _, _, rfl, _⟩ := hr; rfl)
    | (obtain ⟨_, _, _, _, _, rfl⟩ := hr; rfl)
    | (obtain ⟨_, _, _, _, rfl⟩ := hr; rfl)
    | (obtain ⟨_, rfl, _⟩ := hr; rfl)
    | (cases v <;> first | rfl | cases hr)
  rw [hv] at h
  simp only [D.cells, cels]
  exact ⟨⟨v, hr, h 0 v rfl⟩, trivial⟩
theorem zoq {C : Cx} : ∀ (l : List D) (k b o : Nat), cels C l b o -> cels C (l.drop k) b (o + k)
 | l, 0, b, o, h => by simpa using h
 | [], k + 1, b, o, h => by simp only [List.drop_nil, cels]
 | d :: ds, k + 1, b, o, h => by
  simp only [cels] at h
  have := zoq ds k b (o + 1) h.2
  rw [List.drop_succ_cons]
  rwa [show o + (k + 1) = o + 1 + k by omega]
theorem zw6 {C : Cx} : ∀ (n : Nat) (l : List D) (b o : Nat), cels C l b o -> n <= l.length -> ∃ vs : List Value, vs.length = n /\ reps C (l.take n) vs /\ C.w.rangeAt b o vs
 | 0, l, b, o, _, _ => ⟨[], rfl, by simp only [List.take_zero, reps], fun j v hj => by simp at hj⟩
 | n + 1, [], b, o, _, hn => by simp at hn
 | n + 1, d :: ds, b, o, h, hn => by
  simp only [cels] at h
  obtain ⟨⟨v, h1, h3⟩, h4⟩ := h
  obtain ⟨vs, hl, hr, hc⟩ := zw6 n ds b (o + 1) h4 (by simpa using hn)
  refine ⟨v :: vs, by simp [hl], by simp only [List.take_succ_cons, reps]; exact ⟨v, vs, rfl, h1, hr⟩, ?_⟩
  intro j u hj
  cases j with
  | zero => simp at hj; subst hj; exact h3
  | succ j =>
   have := hc j u (by simpa using hj)
   rwa [show o + (j + 1) = o + 1 + j by omega]
theorem zl9 {P : Program} {C : Cx} {t : TypeId} {ti : TI} {l : List D} {b o : Nat} {d : D} (ht : zd0 P t ti = true) (h4 : ti.kind ≠ 4) (hp : part (ti.kind == 2) ti.size l = some d)
  (hn : ti.size <= l.length) (h : cels C l b o) : ∃ v, (loadVar t ⟨b, o, none⟩).run P C.w = .ok v C.w /\ rep C d v := by
 obtain ⟨hag, hsz⟩ := ya0q (w := C.w) ht
 have hag := hag h4
 unfold part at hp
 cases hk : (ti.kind == 2)
 rw [hk] at hp hag
 cases l with
 | nil => simp at hp
 | cons d' ds =>
  simp at hp
  subst hp
  simp only [cels] at h
  obtain ⟨⟨v, h1, h2⟩, _⟩ := h
  exact ⟨v, by simp [loadVar, hag, h2], h1⟩
 rw [hk] at hp hag
 simp at hp
 subst hp
 obtain ⟨vs, hl, hr, hc⟩ := zw6 ti.size l b o h hn
 refine ⟨.agg vs.toArray, ?_, by simp only [rep]; exact ⟨vs, rfl, hr⟩⟩
 have := run_loadCells_list (P := P) C.w ⟨b, o, none⟩ vs (fun j v hv => by rw [Addr.add_mid]; exact hc j v hv)
 rw [hl] at this
 simp [loadVar, hag, hsz, this]
theorem ya54 (C : Cx) (b : Bool) (h : C.rf = true) : Cx.Le { C with rf := b } C := ⟨fun _ _ Z' h => ⟨Z', h, fun _ h1 h2 h3 => ⟨h1, h2, .refl h3⟩⟩, fun _ _ => rfl, id, fun _ => h, fun _ _ _ => rfl⟩
theorem ya8z {C : Cx} : (C.at C.Z).Le C := by
 refine ⟨fun m hm Z' h => ?_, fun _ _ => rfl, (fun x => by cases x), (fun x => by cases x), (fun x => by cases x)⟩
 rcases hm with rfl | hm
 exact ⟨Z', h, fun _ h1 h2 h3 => ⟨h1, h2, .refl h3⟩⟩
 cases hm
mutual
theorem zu3 {C : Cx} {m : Nat} {Z : Nat -> Prop} (hm : 0 < m) (hz : C.zn m = some Z) (hf : C.fl = true) : ∀ (d : D) (v : Value), rep (C.at Z) d v -> rep C (mkM m d) v
 | .bool b, v, h => by simpa only [rep, mkM] using h
 | .int k n, v, h => by simpa only [rep, mkM] using h
 | .str l, v, h => by simpa only [rep, mkM] using h
 | .agg l, v, h => by
  simp only [rep, mkM] at h ⊢
  obtain ⟨cs, rfl, h⟩ := h
  exact ⟨cs, rfl, zql hm hz hf l cs h⟩
 | .imm s l c, v, h => by
  simp only [rep, mkM] at h ⊢
  obtain ⟨a, cap, rfl, h1, h2, h3, h4, h5, h6, hfl, h7⟩ := h
  have e1 : (c % 8 + 8 * m) % 8 = c % 8 := by omega
  have e2 : (c % 8 + 8 * m) / 8 = m := by omega
  have e3 : c / 8 = 0 := by
   rcases Nat.eq_zero_or_pos (c / 8) with e | e
   exact e
   cases hfl e
  rw [e1, e2]
  refine ⟨a, cap, rfl, h1, h2, h3, h4, h5, h6, fun _ => hf, ?_⟩
  rcases h7 with h7 | h7
  exact .inl h7
  right
  intro Z' hZ'
  have : Z' = Z := by
   have : ¬ m = 0 := by omega
   simp only [Cx.zone, this, if_false, hz, za3] at hZ'
   exact hZ'.symm
  subst this
  exact h7 Z' (by rw [e3]; simp [Cx.zone, Cx.at])
 | .ref id s off len oc, v, h => by simp only [rep] at h; cases h.1
 | .ptr id off, v, h => by simp only [rep] at h; cases h.1
 | .eptr id s i off, v, h => by simp only [rep] at h; cases h.1
 | .iptr m' l, v, h => by
  simp only [rep, mkM] at h ⊢
  obtain ⟨a0, rfl, hs, hfl, h7⟩ := h
  have e3 : m' = 0 := by
   rcases Nat.eq_zero_or_pos m' with e | e
   exact e
   cases hfl e
  subst e3
  refine ⟨a0, rfl, hs, fun _ => hf, ?_⟩
  rcases h7 with h7 | h7
  exact .inl h7
  right
  intro Z' hZ'
  have : Z' = Z := by
   have : ¬ m = 0 := by omega
   simp only [Cx.zone, this, if_false, hz, za3] at hZ'
   exact hZ'.symm
  subst this
  exact h7 Z' (by simp [Cx.zone, Cx.at])
 | .nilptr, v, h => by simpa only [rep, mkM] using h
 | .tuple l, v, h => by
  simp only [rep, mkM] at h ⊢
  obtain ⟨cs, rfl, h⟩ := h
  exact ⟨cs, rfl, zql hm hz hf l cs h⟩
 | .fn f l, v, h => by
  simp only [rep, mkM] at h ⊢
  obtain ⟨cs, rfl, h⟩ := h
  exact ⟨cs, rfl, zql hm hz hf l cs h⟩
 | .nilfn, v, h => by simpa only [rep, mkM] using h
 | .iface t d, v, h => by
  simp only [rep, mkM] at h ⊢
  obtain ⟨x, rfl, h⟩ := h
  exact ⟨x, rfl, zu3 hm hz hf d x h⟩
 | .nilIface, v, h => by simpa only [rep, mkM] using h
 | .mref id, v, h => by simp only [rep] at h; cases h.1
 | .nilmap, v, h => by simpa only [rep, mkM] using h
 | .sc, v, h => by simpa only [rep, mkM] using h
 | .when c d, v, h => by
  simp only [rep, mkM] at h ⊢
  exact ⟨fun hc => zu3 hm hz hf d v (h.1 hc), h.2⟩
 | .undef, v, _ => by simp only [rep, mkM]
theorem zql {C : Cx} {m : Nat} {Z : Nat -> Prop} (hm : 0 < m) (hz : C.zn m = some Z) (hf : C.fl = true) : ∀ (l : List D) (vs : List Value), reps (C.at Z) l vs -> reps C (mkML m l) vs
 | [], vs, h => by simpa only [reps, mkML] using h
 | d :: ds, vs, h => by
  simp only [reps, mkML] at h ⊢
  obtain ⟨v, vs', rfl, h1, h2⟩ := h
  exact ⟨v, vs', rfl, zu3 hm hz hf d v h1, zql hm hz hf ds vs' h2⟩
end
theorem ya12 {C : Cx} {m : Nat} {Z : Nat -> Prop} (hz : C.zone m = some Z) (hf : C.fl = true) {d : D} {v : Value} (h : rep (C.at Z) d v) : rep C (mkZ m d) v := by
 cases m with
 | zero =>
  simp only [Cx.zone, if_true, za3] at hz
  subst hz
  exact zew ya8z _ _ h
 | succ m =>
  simp only [Cx.zone, Nat.succ_ne_zero, if_false] at hz
  exact zu3 (Nat.succ_pos m) hz hf d v h
theorem ya1q {C : Cx} {m : Nat} {l : List D} {v : Value} {Z : Nat -> Prop} (hz : C.zone m = some Z) (h : rep C (.iptr m l) v) : ∃ a0, v = .pointer (some a0) /\ a0.spot = none /\ cels (C.at Z) l a0.block a0.off := by
 simp only [rep] at h
 obtain ⟨a0, rfl, hs, _, h⟩ := h
 refine ⟨a0, rfl, hs, ?_⟩
 rcases h with rfl | h
 simp only [cels]
 exact (h Z hz).2.2.2
theorem Mem.live {fr w g hp nu} (h : Mem fr w g hp nu) {m : Nat} (hm : m < 3) : ∃ Z, (cx w g hp).zone m = some Z := by
 obtain ⟨Z1, h1, _⟩ := h.zs.z1
 obtain ⟨Z2, h2, _⟩ := h.zs.z2
 rcases m with _ | _ | _ | m
 exact ⟨_, rfl⟩
 exact ⟨Z1, h1⟩
 exact ⟨Z2, h2⟩
 omega
section
variable {P : Program} {E : En} {n : Nat} {F : FrS} {a : Act} {w : World} {g : Gh} (hR : Rel E n F a w g)
include hR
theorem ya48 {o : Oper} {t : TypeId} {ti : TI} {x : Operand} {dx d : D} {q : Bool} (ho : o.op = .load t x) (ht : zd0 P t ti = true) (h4 : ti.kind ≠ 4)
  (hx : rep (cx w g F.hp) dx (a.eval x)) (h : zro F.hp (ti.kind == 2) ti.size dx = some (d, q)) (hq : q = true) : zfd P (cx w g F.hp) a o d w := by
 have fin : ∀ ad : Addr, a.eval x = .pointer (some ad) -> (∃ v, (loadVar t ad).run P w = .ok v w /\ rep (cx w g F.hp) d v) -> zfd P (cx w g F.hp) a o d w := by
  rintro ad he ⟨v, hr, hrep⟩
  exact ⟨v, by unfold execOp; simp [ho, he, Instr.loadAt, Instr.sureAddr, hr], hrep⟩
 unfold zro at h
 split at h
 ·split at h
  ·rename_i m l d' hp
   cases h
   simp only [za0] at hq
   obtain ⟨Z, hz⟩ := hR.mem.live (lb hq.2)
   obtain ⟨a0, he, hs, hc⟩ := ya1q hz hx
   obtain ⟨v, h1, h2⟩ := zl9 (P := P) ht h4 hp (lb hq.1) hc
   refine fin a0 he ⟨v, ?_, ya12 hz rfl h2⟩
   have : a0 = ⟨a0.block, a0.off, none⟩ := by cases a0; simp_all
   rw [this]; exact h1
  cases h
 rename_i id off
 split at h
 rename_i cs hb
 split at h
 rename_i d' hp
 cases h
 simp only [rep] at hx
 obtain ⟨_, b, o', hσ, he⟩ := hx
 obtain ⟨b', cv, T, hσ', hblk, hreps, _⟩ := hR.mem.hd id _ hb
 have e := hσ'.symm.trans hσ
 simp only [za3, za6] at e
 obtain ⟨rfl, rfl⟩ := e
 have hq := lb hq
 have hc : cels (cx w g F.hp) cs b' 0 := zmj hreps fun j v hj => by
  simp only [cx] at hblk ⊢
  simp only [World.cell?, hblk, Nat.zero_add]
  simpa using hj
 have hc2 := zoq cs off b' 0 hc
 obtain ⟨v, h1, h2⟩ := zl9 (P := P) ht h4 hp (by simp; omega) hc2
 exact fin _ he ⟨v, h1, h2⟩
 cases h
 cases h
 rename_i id s i off
 split at h
 rename_i s' pu items hb
 split at h
 rename_i d' hp
 cases h
 simp only [za0] at hq
 obtain ⟨⟨q1, hi⟩, hn⟩ := hq
 obtain rfl := nb q1
 have hi : i < items.length := lb hi
 have hn := lb hn
 simp only [rep] at hx
 obtain ⟨_, hs0, b, o', hσ, he⟩ := hx
 rcases hR.mem.hd id _ hb with ⟨rfl, _⟩ | ⟨b', cv, hσ', hblk, hsz, hel⟩
 simp at hi
 have e := hσ'.symm.trans hσ
 simp only [za3, za6] at e
 obtain ⟨rfl, rfl⟩ := e
 obtain ⟨v, hv, hs, hr⟩ := zw2 hel hi
 have hc := zsi hv hr (by omega)
 have hc2 := zoq _ off b' _ hc
 obtain ⟨v, h1, h2⟩ := zl9 (P := P) ht h4 hp (by simp; omega) hc2
 exact fin _ he ⟨v, h1, zew (ya54 (cx w g F.hp) _ rfl) _ _ h2⟩
 cases h
 cases h
 cases h
omit hR in
theorem zpb {o : Oper} {x : Operand} {dx : D} (ho : o.op = .nilCheck x) (hx : rep (cx w g F.hp) dx (a.eval x)) (hd : (∃ id off, dx = .ptr id off) \/ (∃ id s i off, dx = .eptr id s i off) \/ ∃ m l, dx = .iptr m l) :
  zfd P (cx w g F.hp) a o dx w := by
 have hp : ∃ ad, a.eval x = .pointer (some ad) := by
  rcases hd with ⟨id, off, rfl⟩ | ⟨id, s, i, off, rfl⟩ | ⟨m, l, rfl⟩
  simp only [rep] at hx; obtain ⟨_, _, _, _, h⟩ := hx; exact ⟨_, h⟩
  simp only [rep] at hx; obtain ⟨_, _, _, _, _, h⟩ := hx; exact ⟨_, h⟩
  simp only [rep] at hx; obtain ⟨_, h, _⟩ := hx; exact ⟨_, h⟩
 obtain ⟨ad, he⟩ := hp
 exact ⟨a.eval x, by unfold execOp; simp [ho, he], hx⟩
omit hR in
theorem znj {t : TypeId} {ti : TI} {f off sz : Nat} {ag : Bool} {ad : Addr} (ht : zd0 P t ti = true) (hk : ti.kind = 2) (hf : ti.offs[f]? = some (off, sz, ag)) (hs : ad.spot = none) :
  (Instr.fieldAt t (.pointer (some ad)) f).run P w = .ok (.pointer (some ⟨ad.block, ad.off + off, none⟩)) w := by
 obtain ⟨i, fs, hi, hu, hsz, hoffs, hall⟩ := zqx ht hk
 rw [hoffs] at hf
 simp only [List.getElem?_map, Option.map_eq_some_iff, za6] at hf
 obtain ⟨fd, hfd, rfl, rfl, rfl⟩ := hf
 have hmem : fd ∈ fs.toList := List.mem_of_getElem? hfd
 obtain ⟨h1, h2, h3⟩ := hall fd hmem
 have hfd' : fs[f]? = some fd := by simpa using hfd
 obtain ⟨j, hj⟩ := Option.isSome_iff_exists.1 h1
 have hn0 : j.size ≠ 0 := by simpa [Program.cellsOf, hj] using h3
 have : ad.add fd.offset = ⟨ad.block, ad.off + fd.offset, none⟩ := by
  unfold Addr.add; split
  ·cases ad; simp_all
  rfl
 simp [Instr.fieldAt, run_underlying hu, hfd', Instr.sureAddr, fieldPlace, sizeOf, typeInfo, hj, hn0, this]
omit hR in
theorem znl {o : Oper} {t : TypeId} {ti : TI} {x : Operand} {f off sz : Nat} {ag : Bool} {dx d : D} (ho : o.op = .fieldAddr t x f) (ht : zd0 P t ti = true) (hk : ti.kind = 2)
  (hf : ti.offs[f]? = some (off, sz, ag)) (hx : rep (cx w g F.hp) dx (a.eval x))
  (hd : (∃ id o', dx = .ptr id o' /\ d = .ptr id (o' + off)) \/ (∃ id s i o', dx = .eptr id s i o' /\ d = .eptr id s i (o' + off)) \/ (∃ m l, dx = .iptr m l /\ d = .iptr m (l.drop off) /\ off <= l.length)) :
  zfd P (cx w g F.hp) a o d w := by
 rcases hd with ⟨id, o', rfl, rfl⟩ | ⟨id, s, i, o', rfl, rfl⟩ | ⟨m, l, rfl, rfl, hl⟩
 simp only [rep] at hx
 obtain ⟨h0, b, ob, hσ, he⟩ := hx
 refine ⟨_, by unfold execOp; simp [ho, he, znj ht hk hf]; rfl, ?_⟩
 simp only [rep]
 exact ⟨h0, b, ob, hσ, by simp [Nat.add_assoc]⟩
 simp only [rep] at hx
 obtain ⟨h0, hs0, b, ob, hσ, he⟩ := hx
 refine ⟨_, by unfold execOp; simp [ho, he, znj ht hk hf]; rfl, ?_⟩
 simp only [rep]
 exact ⟨h0, hs0, b, ob, hσ, by simp [Nat.add_assoc]⟩
 simp only [rep] at hx ⊢
 obtain ⟨a0, he, hs, hfl, h⟩ := hx
 refine ⟨_, by unfold execOp; simp [ho, he, znj ht hk hf hs]; rfl, ?_⟩
 simp only [rep]
 refine ⟨_, rfl, rfl, hfl, ?_⟩
 rcases h with rfl | h
 left; simp
 right
 intro Z hZ
 obtain ⟨h1, h2, h3, h4⟩ := h Z hZ
 exact ⟨h1, h2, h3, zoq l off _ _ h4⟩
omit hR in
theorem ya50 {o : Oper} {t : TypeId} {ti : TI} {x y : Operand} {l : List UInt8} {k : IntKind} {m : Int} (ho : o.op = .index t x y) (ht : zd0 P t ti = true) (hk : ti.kind = 5)
  (hx : rep (cx w g F.hp) (.str l) (a.eval x)) (hy : rep (cx w g F.hp) (.int k m) (a.eval y)) (h0 : 0 <= m) (h1 : m < l.length) :
  zfd P (cx w g F.hp) a o (.int .u8 ((l.getD m.toNat 0).toNat : Int)) w := by
 have hu := zij ht hk
 simp only [rep] at hx hy
 obtain ⟨hx, _⟩ := hx
 obtain ⟨hy, _⟩ := hy
 have hlt : m.toNat < l.length := by omega
 have hb : (⟨l.toArray⟩ : ByteArray)[m.toNat]? = some (l.getD m.toNat 0) := by
  have hsz : m.toNat < (⟨l.toArray⟩ : ByteArray).size := by simpa [ByteArray.size] using hlt
  rw [getElem?_pos (⟨l.toArray⟩ : ByteArray) m.toNat hsz]
  simp [List.getD, hlt, ByteArray.getElem_eq_getElem_data]
 refine ⟨.int .u8 ((l.getD m.toNat 0).toNat : Int), ?_, ?_⟩
 unfold execOp; simp [ho, hx, hy, Instr.index, asIntOf, run_underlying hu, h0, hb]
 simp only [rep]
 have := (l.getD m.toNat 0).toNat_lt
 generalize (l.getD m.toNat 0).toNat = z at *
 refine ⟨trivial, ?_, ?_⟩ <;> simp [IntKind.min, IntKind.max, IntKind.signed, IntKind.bits] <;> omega
omit hR in
theorem zr3 {t e : TypeId} {j : TypeInfo} {ad : Addr} {len cap : Nat} {k : IntKind} {m : Int} (hu : P.underlying t = some (.slice e)) (hj : P.info? e = some j) (h0 : 0 <= m) (h1 : m < len) (hs : ad.spot = none) :
  (Instr.indexAt t (.slice (some ad) len cap) (.int k m)).run P w = .ok (.pointer (some ⟨ad.block, ad.off + m.toNat * j.size, none⟩)) w := by
 have : ad.add (m.toNat * j.size) = ⟨ad.block, ad.off + m.toNat * j.size, none⟩ := by
  unfold Addr.add; split
  ·rename_i h; cases ad; simp_all
  rfl
 simp [Instr.indexAt, asIntOf, run_underlying hu, h0, h1, sizeOf, typeInfo, hj, this]
theorem zrg {o : Oper} {t : TypeId} {ti : TI} {x y : Operand} {s c : Nat} {l : List D} {k : IntKind} {m : Int} (ho : o.op = .indexAddr t x y) (ht : zd0 P t ti = true) (hk : ti.kind = 3)
  (hx : rep (cx w g F.hp) (.imm s l c) (a.eval x)) (hy : rep (cx w g F.hp) (.int k m) (a.eval y)) (h0 : 0 <= m) (h1 : m < l.length) (hs : s = ti.esz) (hc3 : c / 8 < 3) :
  zfd P (cx w g F.hp) a o (.iptr (c / 8) (nth l m.toNat).cells) w := by
 obtain ⟨e, j, hu, hj, hj1, hj2, hj3, hj4, _, _⟩ := zcj ht hk
 simp only [rep] at hx hy
 obtain ⟨ad, cap, hx, g1, g2, g3, g4, g5, g6, hfl, g7⟩ := hx
 obtain ⟨hy, _⟩ := hy
 have hlt : m.toNat < l.length := by omega
 rcases g7 with rfl | g7
 simp at hlt
 obtain ⟨Z, hZ⟩ := hR.mem.live hc3
 obtain ⟨a0, rfl, hsp, hM, hlo, hb, hel⟩ := g7 Z hZ
 obtain ⟨v, hv, hvs, hr⟩ := zw2 hel hlt
 have hc := zsi hv hr (by rw [hvs, hs, <- hj1]; exact hj4)
 refine ⟨_, by unfold execOp; simp [ho, hx, hy, zr3 hu hj h0 h1 hsp]; rfl, ?_⟩
 simp only [rep]
 refine ⟨_, rfl, rfl, hfl, .inr fun Z' hZ' => ?_⟩
 have : Z' = Z := by rw [hZ] at hZ'; exact (sj hZ').symm
 subst this
 exact ⟨hM, hlo, hb.1, by rw [hj1, <- hs]; exact hc⟩
omit hR in
theorem zre {o : Oper} {t : TypeId} {ti : TI} {x y : Operand} {id s off len : Nat} {oc : Option Nat} {k : IntKind} {m : Int} (ho : o.op = .indexAddr t x y) (ht : zd0 P t ti = true) (hk : ti.kind = 3)
  (hx : rep (cx w g F.hp) (.ref id s off len oc) (a.eval x)) (hy : rep (cx w g F.hp) (.int k m) (a.eval y)) (h0 : 0 <= m) (h1 : m < len) (hs : s = ti.esz) :
  zfd P (cx w g F.hp) a o (.eptr id s (off + m.toNat) 0) w := by
 obtain ⟨e, j, hu, hj, hj1, hj2, hj3, hj4, _, _⟩ := zcj ht hk
 simp only [rep] at hx hy
 obtain ⟨h, ad, cap, hx, g1, g2, g3, _, g4⟩ := hx
 obtain ⟨hy, _⟩ := hy
 rcases g4 with g4 | ⟨b, T, nn, hσ, rfl, hsh, hn⟩
 omega
 refine ⟨_, by unfold execOp; simp [ho, hx, hy, zr3 (ad := ⟨b, off * s, none⟩) hu hj h0 h1 rfl]; rfl, ?_⟩
 simp only [rep]
 refine ⟨h, by rw [hs, <- hj1]; exact hj4, b, 0, hσ, ?_⟩
 rw [hj1, <- hs, Nat.add_mul]; simp
omit hR in
theorem zrf {o : Oper} {t : TypeId} {ti : TI} {x y : Operand} {id off : Nat} {k : IntKind} {m : Int} (ho : o.op = .indexAddr t x y) (ht : zd0 P t ti = true) (hk : ti.kind = 4)
  (hx : rep (cx w g F.hp) (.ptr id off) (a.eval x)) (hy : rep (cx w g F.hp) (.int k m) (a.eval y)) (h0 : 0 <= m) (h1 : m < ti.size) :
  zfd P (cx w g F.hp) a o (.ptr id (off + m.toNat)) w := by
 obtain ⟨nn, e, j, hu, hj, hj1, hsz, _⟩ := zxx ht hk
 simp only [rep] at hx hy
 obtain ⟨h, b, o', hσ, hx⟩ := hx
 obtain ⟨hy, _⟩ := hy
 have hadd : (Addr.mk b (o' + off) none).add (m.toNat * j.size) = ⟨b, o' + (off + m.toNat), none⟩ := by
  unfold Addr.add
  rw [hj1, Nat.mul_one]
  split
  simp
  simp [Nat.add_assoc]
 have hlt : m < (nn : Int) := by rw [<- hsz]; exact h1
 refine ⟨_, by unfold execOp; simp [ho, hx, hy, Instr.indexAt, asIntOf, run_underlying hu, Instr.sureAddr, h0, hlt, sizeOf, typeInfo, hj, hadd]; rfl, ?_⟩
 simp only [rep]
 exact ⟨h, b, o', hσ, rfl⟩
omit hR in
theorem zr9 {C : Cx} : ∀ (k : Nat) (l : List D) (vs : List Value), reps C l vs -> reps C (l.drop k) (vs.drop k)
 | 0, l, vs, h => by simpa using h
 | k + 1, [], vs, h => by simp only [reps] at h; subst h; simp only [List.drop_nil, reps]
 | k + 1, d :: ds, vs, h => by
  simp only [reps] at h
  obtain ⟨v, vs', rfl, _, h⟩ := h
  simpa using zr9 k ds vs' h
omit hR in
theorem zr8 {C : Cx} : ∀ (k : Nat) (l : List D) (vs : List Value), reps C l vs -> reps C (l.take k) (vs.take k)
 | 0, l, vs, h => by simp only [List.take_zero, reps]
 | k + 1, [], vs, h => by simp only [reps] at h; subst h; simp only [List.take_nil, reps]
 | k + 1, d :: ds, vs, h => by
  simp only [reps] at h
  obtain ⟨v, vs', rfl, hd, h⟩ := h
  simp only [List.take_succ_cons, reps]
  exact ⟨v, _, rfl, hd, zr8 k ds vs' h⟩
omit hR in
theorem zdc {C : Cx} : ∀ (l : List D) (vs : List Value), reps C l vs -> vs.length = l.length
 | [], vs, h => by simp only [reps] at h; subst h; rfl
 | d :: ds, vs, h => by
  simp only [reps] at h
  obtain ⟨v, vs', rfl, _, h⟩ := h
  simp [zdc ds vs' h]
omit hR in
theorem zy2 {C : Cx} : ∀ (l : List D) (vs : List Value) (i : Nat) (d : D), reps C l vs -> l[i]? = some d -> ∃ v, vs[i]? = some v /\ rep C d v
 | [], vs, i, d, h, hi => by simp at hi
 | d' :: ds, vs, i, d, h, hi => by
  simp only [reps] at h
  obtain ⟨v, vs', rfl, hd, h⟩ := h
  cases i with
  | zero => simp at hi; subst hi; exact ⟨v, rfl, hd⟩
  | succ i => simpa using zy2 ds vs' i d h (by simpa using hi)
omit hR in
theorem ya51 {o : Oper} {t : TypeId} {ti : TI} {x : Operand} {f off sz : Nat} {ag : Bool} {l : List D} {d : D} (ho : o.op = .field t x f) (ht : zd0 P t ti = true) (hk : ti.kind = 2)
  (hf : ti.offs[f]? = some (off, sz, ag)) (hx : rep (cx w g F.hp) (.agg l) (a.eval x)) (hd : Tm.part ag sz (l.drop off) = some d) :
  zfd P (cx w g F.hp) a o d w := by
 obtain ⟨i, fs, hi, hu, hsz, hoffs, hall⟩ := zqx ht hk
 rw [hoffs] at hf
 simp only [List.getElem?_map, Option.map_eq_some_iff, za6] at hf
 obtain ⟨fd, hfd, rfl, rfl, rfl⟩ := hf
 have hmem : fd ∈ fs.toList := List.mem_of_getElem? hfd
 obtain ⟨h1, h2, h3⟩ := hall fd hmem
 have hfd' : fs[f]? = some fd := by simpa using hfd
 obtain ⟨j, hj⟩ := Option.isSome_iff_exists.1 h1
 obtain ⟨ud, hud⟩ := Option.isSome_iff_exists.1 h2
 have hsz : P.cellsOf fd.type = j.size := by simp [Program.cellsOf, hj]
 simp only [rep] at hx
 obtain ⟨cs, hx, hr⟩ := hx
 have hag : (Go.isAgg fd.type).run P w = .ok (zng P fd.type) w := by
  unfold Go.isAgg zng
  rw [Sem.run_bind, run_underlying hud, hud]
  cases ud <;> simp
 have hdr := zr9 fd.offset l cs hr
 unfold Tm.part at hd
 cases hrow : zng P fd.type
 rw [hrow] at hd hag
 cases hl : l.drop fd.offset with
 | nil => rw [hl] at hd; simp at hd
 | cons d0 ds =>
  rw [hl] at hd hdr
  simp at hd
  subst hd
  simp only [reps] at hdr
  obtain ⟨v, vs', hv, hrep, _⟩ := hdr
  have : cs[fd.offset]? = some v := by
   have h := congrArg (fun l => l[0]?) hv
   simpa using h
  exact ⟨v, by unfold execOp; simp [ho, hx, Instr.field, run_underlying hu, hfd', asAgg, Go.part, hag, this], hrep⟩
 rw [hrow] at hd hag
 simp at hd
 subst hd
 refine ⟨.agg (cs.toArray.extract fd.offset (fd.offset + j.size)), ?_, ?_⟩
 unfold execOp; simp [ho, hx, Instr.field, run_underlying hu, hfd', asAgg, Go.part, hag, sizeOf, typeInfo, hj]
 simp only [rep]
 refine ⟨(cs.drop fd.offset).take j.size, ?_, by rw [hsz]; exact zr8 _ _ _ hdr⟩
 congr 1
 apply Array.ext'
 simp
omit hR in
theorem ya17 {o : Oper} {x : Operand} {i : Nat} {l : List D} {d : D} (ho : o.op = .extract x i) (hx : rep (cx w g F.hp) (.tuple l) (a.eval x)) (hd : l[i]? = some d) :
  zfd P (cx w g F.hp) a o d w := by
 simp only [rep] at hx
 obtain ⟨cs, hx, hr⟩ := hx
 obtain ⟨v, hv, hrep⟩ := zy2 l cs i d hr hd
 exact ⟨v, by unfold execOp; simp [ho, hx, Instr.extract, hv], hrep⟩
omit hR in
theorem ya18 {o : Oper} {t t' : TypeId} {ti ti' : TI} {x : Operand} {k k' : IntKind} {m : Int} (ho : o.op = .convert t' t x) (ht : zd0 P t ti = true) (ht' : zd0 P t' ti' = true) (hk : ti.kind = 6) (hi : ti.ik = some k)
  (hx : rep (cx w g F.hp) (.int k' m) (a.eval x)) : zfd P (cx w g F.hp) a o (.int k (wr k m)) w := by
 have hu := ya0r ht hk hi
 obtain ⟨i', d', hi', hd', _⟩ := zci ht'
 simp only [rep] at hx
 obtain ⟨hx, _⟩ := hx
 refine ⟨.int k (k.wrap m), ?_, by simp only [rep, wr]; exact ⟨trivial, zlz _ _⟩⟩
 unfold execOp
 cases d' <;> simp [ho, hx, convert, run_underlying hu, run_underlying hd', Conv.intToInt]
omit hR in
theorem zrd {o : Oper} {t : TypeId} {ti : TI} {x : Operand} {d : D} (ho : o.op = .makeInterface t x) (ht : zd0 P t ti = true) (hni : ti.kind ≠ 7) (hx : rep (cx w g F.hp) d (a.eval x)) :
  zfd P (cx w g F.hp) a o (.iface t d) w := by
 obtain ⟨i', d', hi', hd', _, _, hm⟩ := zci ht
 refine ⟨.iface t (a.eval x), ?_, by simp only [rep]; exact ⟨_, rfl, hx⟩⟩
 unfold execOp
 cases d' <;> first | exact absurd hm hni | simp [ho, Instr.makeInterface, run_underlying hd']
end
end Go.Tm

/- Texts of the proof. -/
import Derived.Test.YtafdfmkjjhimaaaGreatDoorChecked
import Derived.KernelRfl
import Derived.Lib.Overlaps
import Derived.Test.YtafdfmkjjhimaaaGreatDoorGroupPutsCardPf
import Derived.Test.YtafdfmkjjhimaaaGreatDoorGroupPutsCardPe
namespace Go.Tm
structure PlN {α : Type} (f g : α -> D) : Prop where
 un : ∀ x, unf (f x) = g x
 ids : ∀ x, (f x).ids = []
 lo : ∀ x, okM low3 (f x) = true
 nw : ∀ x, okM new1 (f x) = true
section
variable {α : Type} {f g : α -> D} (hf : PlN f g)
include hf
theorem PlN.unfL (l : List α) : Tm.unfL (l.map f) = l.map g := by
 induction l with
 | nil => rfl
 | cons x l ih => simp only [zah, Tm.unfL, hf.un, ih]
theorem PlN.idsL (l : List α) : D.idsL (l.map f) = [] := by
 induction l with
 | nil => rfl
 | cons x l ih => simp only [zah, D.idsL, hf.ids, ih, zai]
theorem PlN.okLo (l : List α) : Tm.okML low3 (l.map f) = true := by
 induction l with
 | nil => rfl
 | cons x l ih => simp only [zah, Tm.okML, hf.lo, ih, Bool.and_self]
theorem PlN.okNw (l : List α) : Tm.okML new1 (l.map f) = true := by
 induction l with
 | nil => rfl
 | cons x l ih => simp only [zah, Tm.okML, hf.nw, ih, Bool.and_self]
theorem zmc {hp : Nat -> Option Blk} {id s e n : Nat} {oc : Option Nat} {l : List α} (h : hp id = some (.arr e s true (l.map f))) (hn : n = l.length) : lend hp (.ref id s 0 n oc) = (.imm s (l.map g) 4, true) := by
 subst hn
 have ht : (l.map f).take l.length = l.map f := List.take_of_length_le (by simp)
 simp only [lend, h, List.drop_zero, ht, hf.unfL, hf.okLo, hf.idsL, List.length_map, Nat.zero_add, Nat.beq_refl, List.isEmpty_nil, Bool.and_true, Bool.true_and, za6, true_and]
 exact zam (za4 _)
theorem zeb {hp : Nat -> Option Blk} {id s e n : Nat} {oc : Option Nat} {l : List α} (h : hp id = some (.arr e s true (l.map f))) (hn : n = l.length) : frz hp (.ref id s 0 n oc) = (.imm s (l.map g) 13, true) := by
 subst hn
 have ht : (l.map f).take l.length = l.map f := List.take_of_length_le (by simp)
 simp only [frz, h, List.drop_zero, ht, hf.unfL, hf.okNw, hf.idsL, List.length_map, Nat.zero_add, Nat.beq_refl, List.isEmpty_nil, Bool.and_true, Bool.true_and, za6, true_and]
 exact zam (za4 _)
theorem zjw (e s : Nat) (l : List α) : newB (some (.arr e s true (l.map f))) = true := by simp only [newB, hf.okNw, Bool.and_self]
end
theorem zlc {α : Type} {f g : α -> D} (m : Nat) (h : ∀ x, mkM m (g x) = f x) (l : List α) : mkML m (l.map g) = l.map f := by
 induction l with
 | nil => rfl
 | cons x l ih => simp only [zah, mkML, h, ih]
def WkN (d d' : D) : Prop := ∀ (fr : Nat) (w : World) (g : Gh) (hp : Nat -> Option Blk) (nu : Nat -> Bool), Mem fr w g hp nu -> ∀ (q : Bool) (v : Value), rep { cx w g hp with rf := q } d v -> rep { cx w g hp with rf := q } d' v
theorem WkN.refl (d : D) : WkN d d := fun _ _ _ _ _ _ _ _ h => h
def WkNs : List D -> List D -> Prop
 | [], [] => True
 | d :: l, d' :: l' => WkN d d' /\ WkNs l l'
 | _, _ => False
theorem WkNs.refl : ∀ l : List D, WkNs l l
 | [] => trivial
 | d :: l => ⟨.refl d, WkNs.refl l⟩
theorem WkNs.len : ∀ {a b : List D}, WkNs a b -> a.length = b.length
 | [], [], _ => rfl
 | _ :: _, _ :: _, h => by simp only [za5, WkNs.len h.2]
 | [], _ :: _, h => h.elim
 | _ :: _, [], h => h.elim
theorem WkNs.elems {fr : Nat} {w : World} {g : Gh} {hp : Nat -> Option Blk} {nu : Nat -> Bool} (hM : Mem fr w g hp nu) (q : Bool) : ∀ {l l' : List D}, WkNs l l' -> ∀ b o s, Tm.elems { cx w g hp with rf := q } l b o s -> Tm.elems { cx w g hp with rf := q } l' b o s
 | [], [], _, _, _, _, h => h
 | d :: l, d' :: l', hw, b, o, s, h => by
  simp only [Tm.elems] at h ⊢
  obtain ⟨⟨v, h1, h2⟩, h3⟩ := h
  exact ⟨⟨v, hw.1 fr w g hp nu hM q v h1, h2⟩, WkNs.elems hM q hw.2 b (o + s) s h3⟩
 | [], _ :: _, hw, _, _, _, _ => hw.elim
 | _ :: _, [], hw, _, _, _, _ => hw.elim
theorem Goes.arr {lim n0 : Nat} {st s : St} (id : Nat) (items items' : List D) {e s' : Nat} {p : Bool} (hd : getL st.heap id = some (.arr e s' p items)) (hw : WkNs items items') (h : Goes lim n0 ⟨st.vars, put st.heap id (.arr e s' p items'), st.nx⟩ s) : Goes lim n0 st s := by
 intro E n F a w g hE hF hR
 obtain ⟨h1, h2, h3⟩ := hF
 have hid : F.hp id = some (.arr e s' p items) := by rw [h2]; exact hd
 have hp : ∀ i, getL (put st.heap id (.arr e s' p items')) i = if id = i then some (.arr e s' p items') else F.hp i := by
  intro i; rw [zgb, h2]
 have hne : ∀ i, getL (put st.heap id (.arr e s' p items')) i ≠ none ↔ F.hp i ≠ none := by
  intro i
  rw [hp]
  by_cases e : id = i
  subst e; simp [hid]
  rw [if_neg e]
 have hown : ownB g (getL (put st.heap id (.arr e s' p items'))) = ownB g F.hp := by
  funext b
  apply propext
  constructor
  rintro ⟨i, o, k1, k2⟩; exact ⟨i, o, (hne i).1 k1, k2⟩
  rintro ⟨i, o, k1, k2⟩; exact ⟨i, o, (hne i).2 k1, k2⟩
 have hcx : cx w g (getL (put st.heap id (.arr e s' p items'))) = cx w g F.hp := by simp only [cx, hown]
 refine h E n ⟨F.rd, getL (put st.heap id (.arr e s' p items')), F.nu⟩ a w g hE ⟨h1, rfl, h3⟩ ⟨hR.sz, hR.df, fun t => by rw [hcx]; exact hR.rd t, ⟨fun i blk hb => ?_, fun i i' b o o' k1 k2 => hR.mem.inj i i' b o o' ((hne i).1 k1) ((hne i').1 k2), fun i hi => ?_, ?_, hR.mem.fl⟩, fun i b o k1 => hR.base i b o ((hne i).1 k1), hR.keep, hR.gz, hR.gs, hR.nu⟩
 have hb : getL (put st.heap id (.arr e s' p items')) i = some blk := hb
 rw [hcx]
 rw [hp] at hb
 by_cases e : id = i
 subst e
 rw [if_pos rfl] at hb
 cases hb
 rcases hR.mem.hd id _ hid with ⟨e1, e2⟩ | ⟨b, cs, e1, e2, e3, e4⟩
 subst e1
 have : items' = [] := zad hw.len.symm
 exact .inl ⟨this, e2⟩
 exact .inr ⟨b, cs, e1, e2, by rw [<- hw.len]; exact e3, WkNs.elems hR.mem _ hw _ _ _ e4⟩
 rw [if_neg e] at hb
 exact hR.mem.hd i blk hb
 obtain ⟨k1, k2⟩ := hR.mem.nw i hi
 refine ⟨k1, ?_⟩
 rcases Classical.em (getL (put st.heap id (.arr e s' p items')) i = none) with e | e
 exact e
 exact absurd k2 ((hne i).1 e)
 rw [hown]; exact hR.mem.zs
theorem zif {α : Type} (f : α -> D) (l : List α) (i : Nat) (x : α) : setN (l.map f) i (f x) = (l.set i x).map f := by
 unfold setN
 exact List.map_set.symm
end Go.Tm
namespace Go.Tm
theorem ya59 (d : D) : mkZ 1 d = mkM 1 d := rfl
theorem ya3a (l : List D) : mkZL 1 l = mkML 1 l := rfl
theorem ya5b (k : IntKind) (l : List Int) : mkML 1 (l.map (D.int k)) = l.map (D.int k) := zlc 1 (fun _ => rfl) l
theorem ya5a (l : List (List UInt8)) : mkML 1 (l.map D.str) = l.map D.str := zlc 1 (fun _ => rfl) l
theorem ya3d (l : List Bool) : mkML 1 (l.map D.bool) = l.map D.bool := zlc 1 (fun _ => rfl) l
theorem Goes.refl {lim n0 : Nat} {st : St} : Goes lim n0 st st := fun _ _ F _ _ g _ hF hR => ⟨F, g, hF, hR⟩
end Go.Tm
namespace Go.Tm
def zwj (l : List Int) : List UInt8 := l.map fun n => UInt8.ofNat n.toNat
def zm9 (l : List UInt8) : List Int := l.map fun b => (b.toNat : Int)
theorem ya03 (l : List Int) : zlw (l.map (D.int .u8)) = some (zwj l) := by
 induction l with
 | nil => rfl
 | cons x l ih => simp only [zah, zlw, ih, zwj]
theorem ya7u (l : List UInt8) : l.map ub = (zm9 l).map (D.int .u8) := by
 simp only [zm9, List.map_map]; rfl
end Go.Tm
namespace Go.Tm
end Go.Tm
namespace Go.Tm
def WkGs : List D -> List D -> Prop
 | [], [] => True
 | d :: l, d' :: l' => WkG d d' /\ WkGs l l'
 | _, _ => False
theorem WkG.refl (d : D) : WkG d d := fun _ _ _ _ _ _ _ h => h
theorem WkGs.cons {d d' : D} {l l' : List D} (h : WkG d d') (hl : WkGs l l') : WkGs (d :: l) (d' :: l') := ⟨h, hl⟩
theorem WkGs.keep {d : D} {l l' : List D} (hl : WkGs l l') : WkGs (d :: l) (d :: l') := ⟨.refl d, hl⟩
theorem WkGs.refl : ∀ l : List D, WkGs l l
 | [] => trivial
 | d :: l => ⟨.refl d, WkGs.refl l⟩
theorem WkGs.reps {fr : Nat} {w : World} {g : Gh} {hp : Nat -> Option Blk} {nu : Nat -> Bool} (hM : Mem fr w g hp nu) : ∀ {l l' : List D}, WkGs l l' -> ∀ vs, Tm.reps (cx w g hp) l vs -> Tm.reps (cx w g hp) l' vs
 | [], [], _, vs, h => h
 | d :: l, d' :: l', hw, vs, h => by
  simp only [Tm.reps] at h ⊢
  obtain ⟨v, vs', e, h1, h2⟩ := h
  exact ⟨v, vs', e, hw.1 fr w g hp nu hM v h1, WkGs.reps hM hw.2 vs' h2⟩
 | [], _ :: _, hw, _, _ => hw.elim
 | _ :: _, [], hw, _, _ => hw.elim
theorem WkG.aggs {l l' : List D} (h : WkGs l l') : WkG (.agg l) (.agg l') := by
 intro fr w g hp nu hM v hv
 simp only [rep] at hv ⊢
 obtain ⟨cs, e, hc⟩ := hv
 exact ⟨cs, e, h.reps hM _ hc⟩
theorem Goes.boxs {lim n0 : Nat} {st s : St} (id : Nat) (cells cells' : List D) (hd : getL st.heap id = some (.box cells)) (hw : WkGs cells cells') (h : Goes lim n0 ⟨st.vars, put st.heap id (.box cells'), st.nx⟩ s) : Goes lim n0 st s := by
 intro E n F a w g hE hF hR
 obtain ⟨h1, h2, h3⟩ := hF
 have hid : F.hp id = some (.box cells) := by rw [h2]; exact hd
 have hp : ∀ i, getL (put st.heap id (.box cells')) i = if id = i then some (.box cells') else F.hp i := by
  intro i; rw [zgb, h2]
 have hne : ∀ i, getL (put st.heap id (.box cells')) i ≠ none ↔ F.hp i ≠ none := by
  intro i
  rw [hp]
  by_cases e : id = i
  subst e; simp [hid]
  rw [if_neg e]
 have hown : ownB g (getL (put st.heap id (.box cells'))) = ownB g F.hp := by
  funext b
  apply propext
  constructor
  rintro ⟨i, o, k1, k2⟩; exact ⟨i, o, (hne i).1 k1, k2⟩
  rintro ⟨i, o, k1, k2⟩; exact ⟨i, o, (hne i).2 k1, k2⟩
 have hcx : cx w g (getL (put st.heap id (.box cells'))) = cx w g F.hp := by simp only [cx, hown]
 refine h E n ⟨F.rd, getL (put st.heap id (.box cells')), F.nu⟩ a w g hE ⟨h1, rfl, h3⟩ ⟨hR.sz, hR.df, fun t => by rw [hcx]; exact hR.rd t, ⟨fun i blk hb => ?_, fun i i' b o o' k1 k2 => hR.mem.inj i i' b o o' ((hne i).1 k1) ((hne i').1 k2), fun i hi => ?_, ?_, hR.mem.fl⟩, fun i b o k1 => hR.base i b o ((hne i).1 k1), hR.keep, hR.gz, hR.gs, hR.nu⟩
 have hb : getL (put st.heap id (.box cells')) i = some blk := hb
 rw [hcx]
 rw [hp] at hb
 by_cases e : id = i
 subst e
 rw [if_pos rfl] at hb
 cases hb
 obtain ⟨b, cs, T, e1, e2, e3, e4⟩ := hR.mem.hd id _ hid
 exact ⟨b, cs, T, e1, e2, hw.reps hR.mem _ e3, e4⟩
 rw [if_neg e] at hb
 exact hR.mem.hd i blk hb
 obtain ⟨k1, k2⟩ := hR.mem.nw i hi
 refine ⟨k1, ?_⟩
 rcases Classical.em (getL (put st.heap id (.box cells')) i = none) with e | e
 exact e
 exact absurd k2 ((hne i).1 e)
 rw [hown]; exact hR.mem.zs
end Go.Tm
namespace Go.Tm
end Go.Tm
namespace Go.Tm
theorem zmp {P : Program} {K : FuncId} {args args' : List D} {H : List (Nat × Blk)} {r : D} {eff : List (Nat × Option Blk)} {nw : Nat × Nat} (h : WkGs args args') (hK : zby P K args' H r eff nw) : zby P K args H r eff nw :=
 ⟨hK.1, fun fr w g hp nu vs hM hH hn hvs => hK.2 fr w g hp nu vs hM hH hn (h.reps hM vs hvs)⟩
theorem zbm {P : Program} {K : FuncId} {args : List D} {H : List (Nat × Blk)} {r : D} {eff : List (Nat × Option Blk)} {nw : Nat × Nat} (a b : Nat) (h : zby P K args H r eff nw) (ha : Nat.blt a nw.1 = true := by rfl) (hb : Nat.blt b nw.1 = true := by rfl) :
  zby P K (D.renL (sw a b) args) (mvH (sw a b) H) (r.ren (sw a b)) (renE (sw a b) eff) nw := by
 refine zow (π := sw a b) (ya8g a b) nw (fun id h1 h2 => ?_) h
 have ha := lb ha
 have hb := lb hb
 have e : sw a b id = id := by
  unfold sw
  rw [zdi (by omega), zdi (by omega)]; rfl
 rw [e]; exact ⟨h1, h2⟩
theorem zfm {P : Program} {K : FuncId} {args : List D} {H : List (Nat × Blk)} {r : D} {eff : List (Nat × Option Blk)} {a b : Nat} (n : Nat) (h : zby P K args H r eff (a, b)) (hn : Nat.ble (n + (b - a)) a = true := by rfl) :
  zby P K (D.renL (bsw n a (b - a)) args) (mvH (bsw n a (b - a)) H) (r.ren (bsw n a (b - a))) (renE (bsw n a (b - a)) eff) (n, n + (b - a)) := by
 have hn := lb hn
 refine zow (π := bsw n a (b - a)) (zxk hn) _ (fun id h1 h2 => ?_) h
 have h1 : a <= id := h1
 have h2 : id < b := h2
 have e1 : (Nat.ble n id && Nat.blt id (n + (b - a))) = false := by
  rw [<- Bool.not_eq_true]; simp only [za0]
  rintro ⟨_, k⟩
  have := lb k
  omega
 have e2 : (Nat.ble a id && Nat.blt id (a + (b - a))) = true := by
  simp only [za0]
  exact ⟨zam h1, zam (by omega)⟩
 simp only [bsw, e1, e2, cond_false, cond_true]
 omega
end Go.Tm
namespace Go.Tm
theorem natbeq (a b : Nat) : Nat.beq a b = (a == b) := by
 by_cases h : a = b
 subst h; simp
 rw [zdi h]; exact (beq_eq_false_iff_ne.2 h).symm
end Go.Tm
namespace Go.Tm
end Go.Tm
namespace Go.Tm
def mget {α β : Type} [DecidableEq α] (k : α) : List (α × β) -> Option β
 | [] => none
 | x :: l => if k = x.1 then some x.2 else mget k l
def mput {α β : Type} [DecidableEq α] (k : α) (v : β) : List (α × β) -> List (α × β)
 | [] => [(k, v)]
 | x :: l => if k = x.1 then (k, v) :: l else x :: mput k v l
def mapD {α β : Type} (f : α -> D) (g : β -> D) (l : List (α × β)) : List (D × D) := l.map fun x => (f x.1, g x.2)
theorem ya3g {α β : Type} (f : α -> D) (g : β -> D) : mapD f g [] = [] := rfl
theorem ya21 {β : Type} (q : IntKind) (g : β -> D) (k : Int) (l : List (Int × β)) : zs5 (.int q k) (mapD (D.int q) g l) = some ((mget k l).map g) := by
 induction l with
 | nil => rfl
 | cons x l ih =>
  simp only [mapD, zah, zs5, zmf, decide_true, cond_true, mget] at ih ⊢
  by_cases h : k = x.1
  simp [h]
  have : (k == x.1) = false := beq_eq_false_iff_ne.2 h
  simp only [this, h, if_false]
  exact ih
theorem ya20 {β : Type} (g : β -> D) (k : List UInt8) (l : List (List UInt8 × β)) : zs5 (.str k) (mapD D.str g l) = some ((mget k l).map g) := by
 induction l with
 | nil => rfl
 | cons x l ih =>
  simp only [mapD, zah, zs5, zmf, mget] at ih ⊢
  by_cases h : k = x.1
  simp [h]
  have : (k == x.1) = false := beq_eq_false_iff_ne.2 h
  simp only [this, h, if_false]
  exact ih
theorem ya2t {β : Type} (q : IntKind) (g : β -> D) (k : Int) (v : β) (d : D) (hd : d = g v) (l : List (Int × β)) : updD (.int q k) d (mapD (D.int q) g l) = some (mapD (D.int q) g (mput k v l)) := by
 subst hd
 induction l with
 | nil => rfl
 | cons x l ih =>
  simp only [mapD, zah, updD, zmf, decide_true, cond_true, mput] at ih ⊢
  by_cases h : k = x.1
  simp [h]
  have : (k == x.1) = false := beq_eq_false_iff_ne.2 h
  simp only [this, h, if_false, ih, zah]
theorem zxt {β : Type} (g : β -> D) (k : List UInt8) (v : β) (d : D) (hd : d = g v) (l : List (List UInt8 × β)) : updD (.str k) d (mapD D.str g l) = some (mapD D.str g (mput k v l)) := by
 subst hd
 induction l with
 | nil => rfl
 | cons x l ih =>
  simp only [mapD, zah, updD, zmf, mput] at ih ⊢
  by_cases h : k = x.1
  simp [h]
  have : (k == x.1) = false := beq_eq_false_iff_ne.2 h
  simp only [this, h, if_false, ih, zah]
theorem zul {α : Type} (f : α -> D) (z : α) (o : Option α) : (o.map f).getD (f z) = f (o.getD z) := by cases o <;> rfl
theorem ya3o (q : IntKind) (z : Int) (o : Option Int) : (o.map (D.int q)).getD (.int q z) = .int q (o.getD z) := zul _ z o
theorem ya3n (z : List UInt8) (o : Option (List UInt8)) : (o.map D.str).getD (.str z) = .str (o.getD z) := zul _ z o
theorem ya1x (z : Bool) (o : Option Bool) : (o.map D.bool).getD (.bool z) = .bool (o.getD z) := zul _ z o
theorem Ok.scopeT {P : Program} {lim n : Nat} {c : Code} {st : St} {Q : Exit -> St -> Prop} (h : Ok P lim n c st Q)
  (hQ : ∀ l s, ¬ Q (.goto l) s := by intro l s h; first | exact h | (obtain ⟨h | h, _⟩ := h <;> cases h) | (obtain ⟨_, _, h | h, _⟩ := h <;> cases h)) : Ok P lim n (.scope c) st Q :=
 .scope (h.mono fun _ s hq => ⟨fun l he => hQ l s (he ▸ hq), hq⟩)
end Go.Tm
namespace Go.Tm
theorem ya2e {P : Program} {K : FuncId} {args : List D} {H : List (Nat × Blk)} {r r' : D} {eff : List (Nat × Option Blk)} {nw : Nat × Nat} (hw : WkG r r') (h : zby P K args H r eff nw) : zby P K args H r' eff nw :=
 ⟨h.1, fun fr w g hp nu vs hM hH hn hvs => (h.2 fr w g hp nu vs hM hH hn hvs).mono fun _ _ ⟨v, g', he, hA⟩ => ⟨v, g', he, hA.gz, hA.gs, hA.keep, hA.mem, hA.own, hw _ _ _ _ _ hA.mem v hA.res⟩⟩
theorem WkG.un (d : D) : WkG d .undef := fun _ _ _ _ _ _ _ _ => by simp only [rep]
end Go.Tm
namespace Go.Tm
def mx {α : Type} (f g : α -> D) (k : Nat) (l : List α) : List D := (l.take k).map f ++ (l.drop k).map g
section
variable {α : Type} (f g : α -> D)
theorem ya7r (k : Nat) (l : List α) : (mx f g k l).length = l.length := by
 simp only [mx, zae, List.length_map, List.length_take, List.length_drop]; omega
theorem ya4c [Inhabited α] {k : Nat} {l : List α} (h : k < l.length) : nth (mx f g k l) k = g (l.getD k default) := by
 unfold nth mx
 rw [List.getD_eq_getElem?_getD, List.getElem?_append_right (by simp; omega)]
 simp [List.getElem?_drop, h, show min k l.length = k by omega]
theorem ya7q {k : Nat} {l : List α} (y : α) (h : k < l.length) : setN (mx f g k l) k (f y) = mx f g (k + 1) (l.set k y) := by
 unfold setN mx
 have e : ((l.take k).map f).length = k := by simp; omega
 rw [List.set_append_right _ _ (by omega), e, Nat.sub_self]
 have h1 : l.drop k = l[k] :: l.drop (k + 1) := za7 h
 rw [h1, zah, List.set_cons_zero]
 have h2 : (l.set k y).take (k + 1) = l.take k ++ [y] := by
  rw [List.take_succ_eq_append_getElem (by simpa using h)]
  simp [List.take_set_of_le]
 have h3 : (l.set k y).drop (k + 1) = l.drop (k + 1) := by
  rw [List.drop_set_of_lt (by omega)]
 rw [h2, h3]
 simp
theorem ya58 (l : List α) : mx f g 0 l = l.map g := by simp [mx]
theorem ya7s {k : Nat} {l : List α} (h : l.length <= k) : mx f g k l = l.map f := by
 unfold mx
 rw [List.take_of_length_le h, zab h]
 simp
theorem WkNs.of_eq {l l' : List D} (h : l = l') : WkNs l l' := h ▸ .refl l
theorem WkNs.mx0 (l : List α) : WkNs (l.map g) (mx f g 0 l) := .of_eq (ya58 f g l).symm
theorem WkNs.mxk {k k' : Nat} (l : List α) (h : k = k') : WkNs (mx f g k l) (mx f g k' l) := .of_eq (by rw [h])
theorem WkNs.mxe {k : Nat} {l : List α} (h : l.length <= k) : WkNs (mx f g k l) (l.map f) := .of_eq (ya7s f g h)
end
theorem zze {n : Int} {l : Nat} (h : 0 <= n /\ n < (l : Int)) (hl : l < 1000000) : n.toNat + 1 = (wr .i64 (n + 1)).toNat := by
 rw [zl8 _ _ (by show (-9223372036854775808 : Int) <= _; omega) (by show _ <= (9223372036854775807 : Int); omega)]
 omega
theorem Goes.pre {lim n0 : Nat} {st s : St} (id k : Nat) (items : List D) {e s' : Nat} {p : Bool} (hd : getL st.heap id = some (.arr e s' p items)) (h : Goes lim n0 ⟨st.vars, put st.heap id (.arr e s' p (items.take k)), st.nx⟩ s) : Goes lim n0 st s := by
 intro E n F a w g hE hF hR
 obtain ⟨h1, h2, h3⟩ := hF
 let items' := items.take k
 have hid : F.hp id = some (.arr e s' p items) := by rw [h2]; exact hd
 have hp : ∀ i, getL (put st.heap id (.arr e s' p items')) i = if id = i then some (.arr e s' p items') else F.hp i := by
  intro i; rw [zgb, h2]
 have hne : ∀ i, getL (put st.heap id (.arr e s' p items')) i ≠ none ↔ F.hp i ≠ none := by
  intro i
  rw [hp]
  by_cases e : id = i
  subst e; simp [hid]
  rw [if_neg e]
 have hown : ownB g (getL (put st.heap id (.arr e s' p items'))) = ownB g F.hp := by
  funext b
  apply propext
  constructor
  rintro ⟨i, o, k1, k2⟩; exact ⟨i, o, (hne i).1 k1, k2⟩
  rintro ⟨i, o, k1, k2⟩; exact ⟨i, o, (hne i).2 k1, k2⟩
 have hcx : cx w g (getL (put st.heap id (.arr e s' p items'))) = cx w g F.hp := by simp only [cx, hown]
 refine h E n ⟨F.rd, getL (put st.heap id (.arr e s' p items')), F.nu⟩ a w g hE ⟨h1, rfl, h3⟩ ⟨hR.sz, hR.df, fun t => by rw [hcx]; exact hR.rd t, ⟨fun i blk hb => ?_, fun i i' b o o' k1 k2 => hR.mem.inj i i' b o o' ((hne i).1 k1) ((hne i').1 k2), fun i hi => ?_, ?_, hR.mem.fl⟩, fun i b o k1 => hR.base i b o ((hne i).1 k1), hR.keep, hR.gz, hR.gs, hR.nu⟩
 have hb : getL (put st.heap id (.arr e s' p items')) i = some blk := hb
 rw [hcx]
 rw [hp] at hb
 by_cases e : id = i
 subst e
 rw [if_pos rfl] at hb
 cases hb
 rcases hR.mem.hd id _ hid with ⟨e1, e2⟩ | ⟨b, cs, e1, e2, e3, e4⟩
 exact .inl ⟨by simp [items', e1], e2⟩
 refine .inr ⟨b, cs, e1, e2, zar (Nat.mul_le_mul_right _ (by simp [items']; omega)) e3, zg6 _ _ _ _ _ e4⟩
 rw [if_neg e] at hb
 exact hR.mem.hd i blk hb
 obtain ⟨k1, k2⟩ := hR.mem.nw i hi
 refine ⟨k1, ?_⟩
 rcases Classical.em (getL (put st.heap id (.arr e s' p items')) i = none) with e | e
 exact e
 exact absurd k2 ((hne i).1 e)
 rw [hown]; exact hR.mem.zs
theorem zea {α β : Type} {g : α -> D} {h : β -> D} (hg : ∀ x, (g x).ids = []) (hh : ∀ y, (h y).ids = []) (l : List (α × β)) : zue (mapD g h l) = [] := by
 induction l with
 | nil => rfl
 | cons x l ih => simp only [mapD, zah, zue, hg, hh, zai] at ih ⊢; exact ih
def Blk.renM (f : Nat -> Nat) : Blk -> Blk
 | .map es => .map es
 | b => b.ren f
def mvHM (f : Nat -> Nat) : List (Nat × Blk) -> List (Nat × Blk)
 | [] => []
 | (i, b) :: r => (f i, b.renM f) :: mvHM f r
def Blk.idsM : Blk -> List Nat
 | .map _ => []
 | b => b.ids
def zzw : List (Nat × Blk) -> List Nat
 | [] => []
 | (i, b) :: r => i :: (b.idsM ++ zzw r)
def zyh : List (Nat × Blk) -> Prop
 | [] => True
 | (_, .map es) :: r => zue es = [] /\ zyh r
 | _ :: r => zyh r
theorem zrb (f : Nat -> Nat) : ∀ l : List (D × D), zue l = [] -> zrc f l = l
 | [], _ => rfl
 | x :: l, h => by
  simp only [zue, List.append_eq_nil_iff] at h
  simp only [zrc, zm5 f _ h.1.1, zm5 f _ h.1.2, zrb f l h.2]
theorem zub (f : Nat -> Nat) : ∀ l : List (Nat × Blk), zyh l -> mvHM f l = mvH f l /\ zzw l = idsH l
 | [], _ => ⟨rfl, rfl⟩
 | (i, .map es) :: r, h => by
  obtain ⟨h1, h2⟩ := zub f r h.2
  have := zrb f es h.1
  simp only [mvHM, mvH, Blk.renM, Blk.ren, this, h1, zzw, idsH, Blk.idsM, Blk.ids, h.1, h2]
  exact ⟨trivial, trivial⟩
 | (i, .box cs) :: r, h => by
  obtain ⟨h1, h2⟩ := zub f r h
  simp only [mvHM, mvH, Blk.renM, h1, zzw, idsH, Blk.idsM, h2]
  exact ⟨trivial, trivial⟩
 | (i, .arr e s p l) :: r, h => by
  obtain ⟨h1, h2⟩ := zub f r h
  simp only [mvHM, mvH, Blk.renM, h1, zzw, idsH, Blk.idsM, h2]
  exact ⟨trivial, trivial⟩
theorem Goes.mp {lim n0 : Nat} {st s : St} (V H : List Nat) (ps : List (Nat × Nat)) (h5 : zyh (zcw H st.heap)) (h1 : (⟨mvV (mvF ps) (zcw V st.vars), mvHM (mvF ps) (zcw H st.heap), s.nx⟩ : St) = s := by first | with_reducible rfl | rfl | (simp only [go_sem, Nat.reduceBEq, Nat.reduceAdd]; rfl))
  (h2 : n0 <= s.nx := by exact lb rfl) (h3 : s.nx <= lim := by exact lb rfl) (h4 : mvOk ps n0 s.nx (idsV (zcw V st.vars) ++ zzw (zcw H st.heap)) = true := by kernel_rfl) : Goes lim n0 st s := by
 obtain ⟨e1, e2⟩ := zub (mvF ps) _ h5
 rw [e1] at h1
 rw [e2] at h4
 exact .mv V H ps h1 h2 h3 h4
theorem zcn {P : Program} {K : FuncId} {args : List D} {H : List (Nat × Blk)} {r : D} {eff : List (Nat × Option Blk)} {a b : Nat} (n : Nat) (h : zby P K args H r eff (a, b)) (hn : (Nat.ble b n && Nat.ble a b) = true := by rfl) :
  zby P K (D.renL (bsw a n (b - a)) args) (mvH (bsw a n (b - a)) H) (r.ren (bsw a n (b - a))) (renE (bsw a n (b - a)) eff) (n, n + (b - a)) := by
 simp only [za0] at hn
 have hn1 := lb hn.1
 have hn2 := lb hn.2
 refine zow (π := bsw a n (b - a)) (zxk (by omega)) _ (fun id h1 h2 => ?_) h
 have h1 : a <= id := h1
 have h2 : id < b := h2
 have e1 : (Nat.ble a id && Nat.blt id (a + (b - a))) = true := by
  simp only [za0]
  exact ⟨zam h1, zam (by omega)⟩
 simp only [bsw, e1, cond_true]
 omega
end Go.Tm
namespace Go.Proofs
open Go.Tm
def Tryz.tmL : List (Nat × TI) := [
 (3, ⟨6, 1, [], [.int .i64 0], 0, 0, 0, false, some .i64, false, []⟩),
 (4, ⟨8, 1, [], [.bool false], 0, 0, 0, false, none, false, []⟩),
 (5, ⟨6, 1, [], [.int .u8 0], 0, 0, 0, false, some .u8, false, []⟩),
 (9, ⟨5, 1, [], [.str []], 0, 0, 0, false, none, false, []⟩),
 (22, ⟨3, 1, [], [.imm 0 [] 0], 91, 7, 88, true, none, false, [.int .i64 0, .imm 0 [] 0, .int .i64 0, .str [], .str [], .int .i64 0, .bool false]⟩),
 (23, ⟨3, 1, [], [.imm 0 [] 0], 144, 2, 16, true, none, false, [.int .i64 0, .int .i64 0]⟩),
 (25, ⟨2, 3, [(0, 1, false), (1, 1, false), (2, 1, false)], [.int .i64 0, .imm 0 [] 0, .imm 0 [] 0], 0, 0, 0, false, none, false, []⟩),
 (26, ⟨3, 1, [], [.imm 0 [] 0], 94, 4, 48, true, none, false, [.int .i64 0, .int .i64 0, .int .i64 0, .imm 0 [] 0]⟩),
 (27, ⟨3, 1, [], [.imm 0 [] 0], 30, 1, 24, false, none, false, [.imm 0 [] 0]⟩),
 (29, ⟨2, 2, [(0, 1, false), (1, 1, false)], [.imm 0 [] 0, .imm 0 [] 0], 0, 0, 0, false, none, false, []⟩),
 (30, ⟨3, 1, [], [.imm 0 [] 0], 3, 1, 8, false, none, false, [.int .i64 0]⟩),
 (32, ⟨2, 6, [(0, 3, true), (3, 2, true), (5, 1, false)], [.int .i64 0, .imm 0 [] 0, .imm 0 [] 0, .imm 0 [] 0, .imm 0 [] 0, .imm 0 [] 0], 0, 0, 0, false, none, false, []⟩),
 (34, ⟨2, 5, [(0, 1, false), (1, 1, false), (2, 1, false), (3, 1, false), (4, 1, false)], [.int .i64 0, .imm 0 [] 0, .int .i64 0, .str [], .str []], 0, 0, 0, false, none, false, []⟩),
 (36, ⟨2, 12, [(0, 1, false), (1, 5, true), (6, 1, false), (7, 1, false), (8, 1, false), (9, 1, false), (10, 1, false), (11, 1, false)], [.int .u8 0, .int .i64 0, .imm 0 [] 0, .int .i64 0, .str [], .str [], .int .i64 0, .int .i64 0, .imm 0 [] 0, .int .i64 0, .int .i64 0, .int .i64 0], 0, 0, 0, false, none, false, []⟩),
 (40, ⟨3, 1, [], [.imm 0 [] 0], 68, 3, 24, true, none, false, [.int .i64 0, .int .i64 0, .int .i64 0]⟩),
 (55, ⟨3, 1, [], [.imm 0 [] 0], 9, 1, 16, false, none, false, [.str []]⟩),
 (60, ⟨3, 1, [], [.imm 0 [] 0], 36, 12, 144, true, none, false, [.int .u8 0, .int .i64 0, .imm 0 [] 0, .int .i64 0, .str [], .str [], .int .i64 0, .int .i64 0, .imm 0 [] 0, .int .i64 0, .int .i64 0, .int .i64 0]⟩),
 (63, ⟨3, 1, [], [.imm 0 [] 0], 34, 5, 72, true, none, false, [.int .i64 0, .imm 0 [] 0, .int .i64 0, .str [], .str []]⟩),
 (66, ⟨4, 4, [(0, 1, false), (1, 1, false), (2, 1, false), (3, 1, false)], [.int .i64 0, .int .i64 0, .int .i64 0, .int .i64 0], 0, 0, 0, false, none, false, []⟩),
 (68, ⟨2, 3, [(0, 1, false), (1, 1, false), (2, 1, false)], [.int .i64 0, .int .i64 0, .int .i64 0], 0, 0, 0, false, none, true, []⟩),
 (76, ⟨7, 1, [], [.nilIface], 0, 0, 0, false, none, false, []⟩),
 (83, ⟨1, 1, [], [.nilfn], 0, 0, 0, false, none, false, []⟩),
 (91, ⟨2, 7, [(0, 5, true), (5, 1, false), (6, 1, false)], [.int .i64 0, .imm 0 [] 0, .int .i64 0, .str [], .str [], .int .i64 0, .bool false], 0, 0, 0, false, none, false, []⟩),
 (92, ⟨3, 1, [], [.imm 0 [] 0], 96, 4, 48, true, none, false, [.int .i64 0, .int .i64 0, .str [], .str []]⟩),
 (94, ⟨2, 4, [(0, 1, false), (1, 1, false), (2, 1, false), (3, 1, false)], [.int .i64 0, .int .i64 0, .int .i64 0, .imm 0 [] 0], 0, 0, 0, false, none, false, []⟩),
 (96, ⟨2, 4, [(0, 1, false), (1, 1, false), (2, 1, false), (3, 1, false)], [.int .i64 0, .int .i64 0, .str [], .str []], 0, 0, 0, false, none, true, []⟩),
 (101, ⟨2, 6, [(0, 6, true)], [.int .i64 0, .imm 0 [] 0, .imm 0 [] 0, .imm 0 [] 0, .imm 0 [] 0, .imm 0 [] 0], 0, 0, 0, false, none, false, []⟩),
 (106, ⟨2, 1, [(0, 1, false)], [.int .i64 0], 0, 0, 0, false, none, true, []⟩),
 (116, ⟨2, 19, [(0, 12, true), (12, 3, true), (15, 3, true), (18, 1, false)], [.int .u8 0, .int .i64 0, .imm 0 [] 0, .int .i64 0, .str [], .str [], .int .i64 0, .int .i64 0, .imm 0 [] 0, .int .i64 0, .int .i64 0, .int .i64 0, .int .i64 0, .imm 0 [] 0, .imm 0 [] 0, .int .i64 0, .imm 0 [] 0, .imm 0 [] 0, .imm 0 [] 0], 0, 0, 0, false, none, false, []⟩),
 (144, ⟨2, 2, [(0, 1, false), (1, 1, false)], [.int .i64 0, .int .i64 0], 0, 0, 0, false, none, true, []⟩),
 (148, ⟨9, 1, [], [.nilmap], 3, 1, 0, false, none, false, [.int .i64 0]⟩),
 (174, ⟨3, 1, [], [.imm 0 [] 0], 5, 1, 1, false, none, false, [.int .u8 0]⟩),
 (176, ⟨2, 2, [(0, 1, false), (1, 1, false)], [.imm 0 [] 0, .bool false], 0, 0, 0, false, none, false, []⟩),
 (179, ⟨2, 2, [(0, 1, false), (1, 1, false)], [.str [], .nilIface], 0, 0, 0, false, none, false, []⟩),
 (209, ⟨9, 1, [], [.nilmap], 9, 1, 0, false, none, false, [.int .i64 0]⟩),
 (220, ⟨2, 3, [(0, 3, true)], [.int .i64 0, .imm 0 [] 0, .imm 0 [] 0], 0, 0, 0, false, none, false, []⟩),
 (293, ⟨6, 1, [], [.int .u64 0], 0, 0, 0, false, some .u64, false, []⟩)]
def Tryz.tm (t : Nat) : TI := match getL Tryz.tmL t with | some x => x | none => default
theorem Tryz.tmAll : (Tryz.tmL.all fun x => zd0 Tryz.prog x.1 x.2 && (!x.2.eqs || ztk Tryz.prog x.1 x.2)) = true := by kernel_rfl
theorem Tryz.tmOk : zgy Tryz.prog Tryz.tm := ya2w Tryz.tmAll
theorem Tryz.tmMixed : Tryz.prog.follows .mixedOrders = true := by kernel_rfl
theorem Tryz.tm_3 : Tryz.tm 3 = ⟨6, 1, [], [.int .i64 0], 0, 0, 0, false, some .i64, false, []⟩ := by kernel_rfl
theorem Tryz.tm_4 : Tryz.tm 4 = ⟨8, 1, [], [.bool false], 0, 0, 0, false, none, false, []⟩ := by kernel_rfl
theorem Tryz.tm_5 : Tryz.tm 5 = ⟨6, 1, [], [.int .u8 0], 0, 0, 0, false, some .u8, false, []⟩ := by kernel_rfl
theorem Tryz.tm_9 : Tryz.tm 9 = ⟨5, 1, [], [.str []], 0, 0, 0, false, none, false, []⟩ := by kernel_rfl
theorem Tryz.tm_22 : Tryz.tm 22 = ⟨3, 1, [], [.imm 0 [] 0], 91, 7, 88, true, none, false, [.int .i64 0, .imm 0 [] 0, .int .i64 0, .str [], .str [], .int .i64 0, .bool false]⟩ := by kernel_rfl
theorem Tryz.tm_23 : Tryz.tm 23 = ⟨3, 1, [], [.imm 0 [] 0], 144, 2, 16, true, none, false, [.int .i64 0, .int .i64 0]⟩ := by kernel_rfl
theorem Tryz.tm_25 : Tryz.tm 25 = ⟨2, 3, [(0, 1, false), (1, 1, false), (2, 1, false)], [.int .i64 0, .imm 0 [] 0, .imm 0 [] 0], 0, 0, 0, false, none, false, []⟩ := by kernel_rfl
theorem Tryz.tm_26 : Tryz.tm 26 = ⟨3, 1, [], [.imm 0 [] 0], 94, 4, 48, true, none, false, [.int .i64 0, .int .i64 0, .int .i64 0, .imm 0 [] 0]⟩ := by kernel_rfl
theorem Tryz.tm_27 : Tryz.tm 27 = ⟨3, 1, [], [.imm 0 [] 0], 30, 1, 24, false, none, false, [.imm 0 [] 0]⟩ := by kernel_rfl
theorem Tryz.tm_29 : Tryz.tm 29 = ⟨2, 2, [(0, 1, false), (1, 1, false)], [.imm 0 [] 0, .imm 0 [] 0], 0, 0, 0, false, none, false, []⟩ := by kernel_rfl
theorem Tryz.tm_30 : Tryz.tm 30 = ⟨3, 1, [], [.imm 0 [] 0], 3, 1, 8, false, none, false, [.int .i64 0]⟩ := by kernel_rfl
theorem Tryz.tm_32 : Tryz.tm 32 = ⟨2, 6, [(0, 3, true), (3, 2, true), (5, 1, false)], [.int .i64 0, .imm 0 [] 0, .imm 0 [] 0, .imm 0 [] 0, .imm 0 [] 0, .imm 0 [] 0], 0, 0, 0, false, none, false, []⟩ := by kernel_rfl
theorem Tryz.tm_34 : Tryz.tm 34 = ⟨2, 5, [(0, 1, false), (1, 1, false), (2, 1, false), (3, 1, false), (4, 1, false)], [.int .i64 0, .imm 0 [] 0, .int .i64 0, .str [], .str []], 0, 0, 0, false, none, false, []⟩ := by kernel_rfl
theorem Tryz.tm_36 : Tryz.tm 36 = ⟨2, 12, [(0, 1, false), (1, 5, true), (6, 1, false), (7, 1, false), (8, 1, false), (9, 1, false), (10, 1, false), (11, 1, false)], [.int .u8 0, .int .i64 0, .imm 0 [] 0, .int .i64 0, .str [], .str [], .int .i64 0, .int .i64 0, .imm 0 [] 0, .int .i64 0, .int .i64 0, .int .i64 0], 0, 0, 0, false, none, false, []⟩ := by kernel_rfl
theorem Tryz.tm_40 : Tryz.tm 40 = ⟨3, 1, [], [.imm 0 [] 0], 68, 3, 24, true, none, false, [.int .i64 0, .int .i64 0, .int .i64 0]⟩ := by kernel_rfl
theorem Tryz.tm_55 : Tryz.tm 55 = ⟨3, 1, [], [.imm 0 [] 0], 9, 1, 16, false, none, false, [.str []]⟩ := by kernel_rfl
theorem Tryz.tm_60 : Tryz.tm 60 = ⟨3, 1, [], [.imm 0 [] 0], 36, 12, 144, true, none, false, [.int .u8 0, .int .i64 0, .imm 0 [] 0, .int .i64 0, .str [], .str [], .int .i64 0, .int .i64 0, .imm 0 [] 0, .int .i64 0, .int .i64 0, .int .i64 0]⟩ := by kernel_rfl
theorem Tryz.tm_63 : Tryz.tm 63 = ⟨3, 1, [], [.imm 0 [] 0], 34, 5, 72, true, none, false, [.int .i64 0, .imm 0 [] 0, .int .i64 0, .str [], .str []]⟩ := by kernel_rfl
theorem Tryz.tm_66 : Tryz.tm 66 = ⟨4, 4, [(0, 1, false), (1, 1, false), (2, 1, false), (3, 1, false)], [.int .i64 0, .int .i64 0, .int .i64 0, .int .i64 0], 0, 0, 0, false, none, false, []⟩ := by kernel_rfl
theorem Tryz.tm_68 : Tryz.tm 68 = ⟨2, 3, [(0, 1, false), (1, 1, false), (2, 1, false)], [.int .i64 0, .int .i64 0, .int .i64 0], 0, 0, 0, false, none, true, []⟩ := by kernel_rfl
theorem Tryz.tm_76 : Tryz.tm 76 = ⟨7, 1, [], [.nilIface], 0, 0, 0, false, none, false, []⟩ := by kernel_rfl
theorem Tryz.tm_83 : Tryz.tm 83 = ⟨1, 1, [], [.nilfn], 0, 0, 0, false, none, false, []⟩ := by kernel_rfl
theorem Tryz.tm_91 : Tryz.tm 91 = ⟨2, 7, [(0, 5, true), (5, 1, false), (6, 1, false)], [.int .i64 0, .imm 0 [] 0, .int .i64 0, .str [], .str [], .int .i64 0, .bool false], 0, 0, 0, false, none, false, []⟩ := by kernel_rfl
theorem Tryz.tm_92 : Tryz.tm 92 = ⟨3, 1, [], [.imm 0 [] 0], 96, 4, 48, true, none, false, [.int .i64 0, .int .i64 0, .str [], .str []]⟩ := by kernel_rfl
theorem Tryz.tm_94 : Tryz.tm 94 = ⟨2, 4, [(0, 1, false), (1, 1, false), (2, 1, false), (3, 1, false)], [.int .i64 0, .int .i64 0, .int .i64 0, .imm 0 [] 0], 0, 0, 0, false, none, false, []⟩ := by kernel_rfl
theorem Tryz.tm_96 : Tryz.tm 96 = ⟨2, 4, [(0, 1, false), (1, 1, false), (2, 1, false), (3, 1, false)], [.int .i64 0, .int .i64 0, .str [], .str []], 0, 0, 0, false, none, true, []⟩ := by kernel_rfl
theorem Tryz.tm_101 : Tryz.tm 101 = ⟨2, 6, [(0, 6, true)], [.int .i64 0, .imm 0 [] 0, .imm 0 [] 0, .imm 0 [] 0, .imm 0 [] 0, .imm 0 [] 0], 0, 0, 0, false, none, false, []⟩ := by kernel_rfl
theorem Tryz.tm_106 : Tryz.tm 106 = ⟨2, 1, [(0, 1, false)], [.int .i64 0], 0, 0, 0, false, none, true, []⟩ := by kernel_rfl
theorem Tryz.tm_116 : Tryz.tm 116 = ⟨2, 19, [(0, 12, true), (12, 3, true), (15, 3, true), (18, 1, false)], [.int .u8 0, .int .i64 0, .imm 0 [] 0, .int .i64 0, .str [], .str [], .int .i64 0, .int .i64 0, .imm 0 [] 0, .int .i64 0, .int .i64 0, .int .i64 0, .int .i64 0, .imm 0 [] 0, .imm 0 [] 0, .int .i64 0, .imm 0 [] 0, .imm 0 [] 0, .imm 0 [] 0], 0, 0, 0, false, none, false, []⟩ := by kernel_rfl
theorem Tryz.tm_144 : Tryz.tm 144 = ⟨2, 2, [(0, 1, false), (1, 1, false)], [.int .i64 0, .int .i64 0], 0, 0, 0, false, none, true, []⟩ := by kernel_rfl
theorem Tryz.tm_148 : Tryz.tm 148 = ⟨9, 1, [], [.nilmap], 3, 1, 0, false, none, false, [.int .i64 0]⟩ := by kernel_rfl
theorem Tryz.tm_174 : Tryz.tm 174 = ⟨3, 1, [], [.imm 0 [] 0], 5, 1, 1, false, none, false, [.int .u8 0]⟩ := by kernel_rfl
theorem Tryz.tm_176 : Tryz.tm 176 = ⟨2, 2, [(0, 1, false), (1, 1, false)], [.imm 0 [] 0, .bool false], 0, 0, 0, false, none, false, []⟩ := by kernel_rfl
theorem Tryz.tm_179 : Tryz.tm 179 = ⟨2, 2, [(0, 1, false), (1, 1, false)], [.str [], .nilIface], 0, 0, 0, false, none, false, []⟩ := by kernel_rfl
theorem Tryz.tm_209 : Tryz.tm 209 = ⟨9, 1, [], [.nilmap], 9, 1, 0, false, none, false, [.int .i64 0]⟩ := by kernel_rfl
theorem Tryz.tm_220 : Tryz.tm 220 = ⟨2, 3, [(0, 3, true)], [.int .i64 0, .imm 0 [] 0, .imm 0 [] 0], 0, 0, 0, false, none, false, []⟩ := by kernel_rfl
theorem Tryz.tm_293 : Tryz.tm 293 = ⟨6, 1, [], [.int .u64 0], 0, 0, 0, false, some .u64, false, []⟩ := by kernel_rfl
theorem zS : Seat Tryz.prog Tryz.tm := ⟨Tryz.tmOk, Tryz.tmMixed⟩
end Go.Proofs
namespace Go.Tm
open Go.RowKit Go.WideShapes
theorem ya36 {P : Program} {K : FuncId} {fn : Func} {t r : TypeId} (hf : P.funcs[K]? = some fn) (hname : (fn.name == "runtime.NumGoroutine") = false) (hb : fn.body.isNone = true) (hn : Extern.findNext fn = none)
  (he : Extern.find fn = some (Extern.SlicesOverlaps.overlaps #[t, t] #[r])) {ti : TI} (ht : zd0 P t ti = true) (hk : ti.kind = 3) : ya41 P K := by
 intro w x y la ca lb cb cx cy Tx Ty hne hs hx hy hz
 obtain ⟨el, j, hu, hj, hj1, hj2, hj3, hj4, _, hel'⟩ := zcj ht hk
 subst hel'
 have hsz : ∀ w : World, (sizeOf ti.el).run P w = .ok j.size w := fun w => by simp [sizeOf, typeInfo, hj]
 obtain ⟨xb, xo, xs⟩ := x
 simp only at hs hx hne
 subst hs
 rw [run_callFunc_extern hf hname hb hn he, Go.Lib.run_overlaps_apart w t r ti.el hu j.size hsz ⟨xb, xo, none⟩ y la ca lb cb hne Tx Ty cx.size cy.size (by simp [World.shape?, hx]) (by simp [World.shape?, hy]) hz (by simp [World.frozen?, hx]) (by simp [World.frozen?, hx])]
 rfl
theorem ztp {P : Program} {K : FuncId} {i k s n m : Nat} {e s' : Nat} {p p' : Bool} {l l' : List D} {post : List D} {H : List (Nat × Blk)} (hE : zlx P K) (hH : getL H i = some (.arr e s p l)) (hik : i ≠ k) (hm0 : 0 < m \/ 0 < n)
  (hin : ∀ c, capK c = true -> n <= c -> m <= c -> zby P K (.ref i s 0 n (some c) :: post) H (.ref i s 0 m (some c)) [(i, some (.arr e s' p' l'))] (k, k))
  (hout : ∀ c, capK c = true -> n <= c -> c < m -> zby P K (.ref i s 0 n (some c) :: post) H (.ref k s 0 m none) [(k, some (.arr e s' p' l')), (i, none)] (k, k + 1)) :
  zby P K (.ref i s 0 n (some uC) :: post) H (.ref k s 0 m (some uC)) [(k, some (.arr e s' p' l')), (i, none)] (k, k + 1) := by
 refine ⟨hE, fun fr w g hp nu vs hM hHs hnw hvs => ?_⟩
 simp only [reps] at hvs
 obtain ⟨v0, vs, rfl, h0, hvs⟩ := hvs
 have h0' := h0
 simp only [rep] at h0
 obtain ⟨q1, ad, cap, rfl, q2, q3, q4, q5, q6⟩ := h0
 have hc : rep (cx w g hp) (.ref i s 0 n (some cap)) (.slice ad n cap) := by
  simp only [rep]
  exact ⟨q1, ad, cap, rfl, q2, q3, q4, ⟨fun c h _ => by cases h; rfl, fun h => by cases h⟩, q6⟩
 have hargs : reps (cx w g hp) (.ref i s 0 n (some cap) :: post) (.slice ad n cap :: vs) := by
  simp only [reps]
  exact ⟨_, _, rfl, hc, hvs⟩
 have hck : capK cap = true := zam (by omega)
 by_cases hcase : cap < m
 refine ((hout cap hck q2 hcase).2 fr w g hp nu _ hM hHs hnw hargs).mono ?_
 rintro ee w' ⟨v, g', he, ha⟩
 exact ⟨v, g', he, ha.gz, ha.gs, ha.keep, ha.mem, ha.own, zwq ha.res rfl⟩
 have hq6 := q6
 rcases q6 with q6 | ⟨b1, T1, n1, z1, _, z2, z3⟩
 omega
 refine ((hin cap hck q2 (by omega)).2 fr w g hp nu _ hM hHs (fun id h1 h2 => by have h1 : k <= id := h1; have h2 : id < k := h2; omega) hargs).mono ?_
 rintro ee w' ⟨v, g', he, ha⟩
 have hki : Nat.beq k i = false := zdi fun e => hik e.symm
 have hnk : nu k = true := hnw k (za4 _) (Nat.lt_succ_self _)
 have hpi : hp i = some (.arr e s p l) := hHs i _ hH
 have hni : nu i = false := by
  cases h : nu i
  rfl
  rw [(hM.nw i h).2] at hpi; cases hpi
 have hσi : g'.σ i = some (b1, 0) := (ha.gs i hni).trans z1
 let E0 : En := ⟨w', fr, fun _ => True, g', effN nu (k, k)⟩
 let F0 : FrS := ⟨fun _ => .undef, effH hp [(i, some (.arr e s' p' l'))], effN nu (k, k)⟩
 let a0 : Act := ⟨#[], []⟩
 have hR0 : Rel E0 0 F0 a0 w' g' := ⟨Nat.zero_le _, rfl, fun _ => by simp only [F0, rep], ha.mem, fun _ _ _ _ _ => .inr trivial, Keep.refl _ _, ⟨rfl, rfl⟩, fun _ _ => rfl, fun _ h => h⟩
 have hpi' : effH hp [(i, some (.arr e s' p' l'))] i = some (.arr e s' p' l') := by simp [effH, getL]
 have hnk0 : F0.nu k = true := by
  show effN nu (k, k) k = true
  simp [effN, hnk]
 obtain ⟨r1, _⟩ := Rel.made hR0 (m := k) (blk := .arr e s' p' l') (loc := some (b1, 0)) (kl := some i) (w' := w') hnk0 ((Keep.refl _ w').mono fun _ _ h => h)
  (by rintro b o h; cases h; exact .inr ⟨i, 0, rfl, by show effH hp [(i, some (.arr e s' p' l'))] i ≠ none; rw [hpi']; simp, hσi⟩)
  (by
   intro C hC hle hrf hσ
   rcases ha.mem.hd i _ hpi' with ⟨_, h⟩ | ⟨b', cs, h1, h2, h3, h4⟩
   have h : g'.σ i = none := h
   rw [hσi] at h; cases h
   have h1 : g'.σ i = some (b', 0) := h1
   rw [hσi] at h1
   simp only [za3, za6] at h1
   obtain ⟨rfl, _⟩ := h1
   exact .inr ⟨b1, cs, hσ, by subst hC; exact h2, h3, zfe (C := { cx w' g' (effH hp [(i, some (.arr e s' p' l'))]) with rf := !p' }) (C' := { C with rf := !p' }) (zph hle rfl _ _ id) _ _ _ _ (by subst hC; rfl) h4⟩)
 have hhp : effH (effH hp [(i, some (.arr e s' p' l'))]) ((k, some (.arr e s' p' l')) :: kill (some i)) = effH hp [(k, some (.arr e s' p' l')), (i, none)] := by
  funext x
  simp only [effH, kill, getL]
  cases h1 : Nat.beq k x
  cases h2 : Nat.beq i x <;> simp
  simp
 have hnn : effN (effN nu (k, k)) (k, k + 1) = effN nu (k, k + 1) := by
  funext x
  simp only [effN]
  have : (decide (k <= x) && decide (x < k)) = false := by
   cases hx : decide (k <= x) <;> simp at hx ⊢
   omega
  rw [this]; simp
 have hmem := r1.mem
 simp only [FrS.eff, F0] at hmem
 rw [hhp, hnn] at hmem
 have hpk : effH hp [(k, some (.arr e s' p' l')), (i, none)] i = none := by simp [effH, getL, hki]
 refine ⟨v, setσ g' k (some (b1, 0)), he, ha.gz, fun id hid => ?_, ha.keep, hmem, ?_, ?_⟩
 have : id ≠ k := by rintro rfl; rw [hnk] at hid; cases hid
 show (if id = k then _ else g'.σ id) = g.σ id
 rw [if_neg this]
 exact ha.gs id hid
 rintro b0 ⟨id, o, h1, h2⟩
 have h2 : (if id = k then some (b1, 0) else g'.σ id) = some (b0, o) := h2
 by_cases hidk : id = k
 rw [if_pos hidk] at h2
 simp only [za3, za6] at h2
 obtain ⟨rfl, rfl⟩ := h2
 exact ha.own b1 ⟨i, 0, by rw [hpi']; simp, hσi⟩
 rw [if_neg hidk] at h2
 by_cases hidi : id = i
 subst hidi
 rw [hpk] at h1
 exact absurd rfl h1
 refine ha.own b0 ⟨id, o, ?_, h2⟩
 have a1 : Nat.beq k id = false := zdi fun e => hidk e.symm
 have a2 : Nat.beq i id = false := zdi fun e => hidi e.symm
 simp only [effH, getL, a1, a2] at h1 ⊢
 exact h1
 have hres := ha.res
 simp only [rep] at hres ⊢
 obtain ⟨_, ad', cap', hv, k1, k2, k3, k4, k5⟩ := hres
 have hcc := k4.1 cap rfl (zam (by omega))
 subst hcc
 have hsh : w'.shape? b1 = some (T1, n1) := by
  have := ha.keep.shp b1 (zo3 (w := w) z2)
  rw [this]; exact z2
 refine ⟨by simp [cx], ad', cap', hv, k1, k2, k3, ⟨(fun c h hk => by cases h; cases hk), (fun h => by cases h)⟩, ?_⟩
 rcases k5 with k5 | ⟨b, T, nn, y1, y2, y3, y4⟩
 exact .inl k5
 have y1 : g'.σ i = some (b, 0) := y1
 rw [hσi] at y1
 simp only [za3, za6] at y1
 obtain ⟨rfl, _⟩ := y1
 exact .inr ⟨b1, T, nn, by simp [cx, setσ], y2, y3, y4⟩
end Go.Tm
namespace Go.Proofs
open Go.Tm Go.RowKit Go.WideShapes
set_option maxRecDepth 100000
set_option linter.unusedSimpArgs false
set_option linter.unusedVariables false
attribute [local go_sem] zfn runE runK zj1 zt2 aop opd zoc opds opdO ev zvi keep List.any natbeq Bool.false_or Bool.true_or zg3 cond_true cond_false Bool.cond_false_right Bool.cond_true_left beq_true beq_false imp_self implies_true getR getL put St.app effL del nwB zxl Nat.lt_irrefl Nat.lt_add_one zxm za4 Nat.beq_refl zk7 zhw capS zuc zri zdp D.ids D.idsL bin ya04 zr2 binT zw4 Tm.part zo2 zs6 oneD zro zo1 srcD zgc zoj decide_true gval zq6 D.cells zah List.map_nil List.take List.drop List.length_map List.append Int.toNat_natCast and_true true_and decide_false za5 zac zag zai Bool.and_true Bool.true_and Bool.not_false Bool.not_true ne_eq not_false_eq_true BEq.rfl List.getElem?_cons_zero List.getElem?_cons_succ List.getElem?_nil Nat.zero_add List.all_cons List.all_nil List.isEmpty_cons List.isEmpty_nil Option.getD_some Option.getD_none List.any_cons List.any_nil List.drop_succ_cons List.drop_zero unfL unf okM okML low3 zal true_or or_true Nat.zero_mul Nat.zero_le fpOf zod
theorem ya37 : ya41 Tryz.prog 202 := ya36 (r := 4) Tryz.func202 (by kernel_rfl) (by kernel_rfl) (by kernel_rfl) (by kernel_rfl) (Tryz.tmOk.1 22 (by decide)) rfl
theorem ya1r (i j k : Nat) (hij : i ≠ j) (hik : i ≠ k) (hjk : j ≠ k) (L : List D) (x : D) (P Q : Bool) (hL : L.length < 1000000) :
  zby Tryz.prog 184 [.ref i 7 0 L.length (some uC), .int .i64 (L.length : Int), .ref j 7 0 1 (some 1)] [(i, .arr 91 7 P L), (j, .arr 91 7 Q [x])] (.ref k 7 0 (L.length + 1) (some uC)) [(k, some (.arr 91 7 (P && Q) (L ++ [x]))), (i, none)] (k, k + 1) := by
 have bij : Nat.beq i j = false := zdi hij
 have bik : Nat.beq i k = false := zdi hik
 have bjk : Nat.beq j k = false := zdi hjk
 have bji : Nat.beq j i = false := zdi (Ne.symm hij)
 have bki : Nat.beq k i = false := zdi (Ne.symm hik)
 have bkj : Nat.beq k j = false := zdi (Ne.symm hjk)
 have n10 : ¬ ((1 : Int) = 0) := by omega
 have hx : (1 : Nat) <= 1 := za4 _
 refine ziy Tryz.tmOk Tryz.func184 rfl (by decide) (lb rfl) (by simp) ?_
 intro hwf
 refine .seq ?_
 refine .pp zS [0, 1, 2] (by intro q hq; simp only [go_sem, zbv, Nat.reduceSub, Int.reduceEq, Nat.reduceLT, Nat.reduceDiv, Nat.reduceAdd, Nat.reduceBEq, Nat.reduceLeDiff, reduceCtorEq, Nat.reduceEqDiff, Nat.reduceMod, capK, bij, bik, bjk, bji, bki, bkj]; exact hq) ?_
 refine .seq ?_
 refine .pp zS [0, 1, 2] (by intro q hq; simp only [go_sem, zbv, Nat.reduceSub, Int.reduceEq, Nat.reduceLT, Nat.reduceDiv, Nat.reduceAdd, Nat.reduceBEq, Nat.reduceLeDiff, reduceCtorEq, Nat.reduceEqDiff, Nat.reduceMod, capK, Tryz.tm_22, Tryz.tm_3, bij, bik, bjk, bji, bki, bkj]; exact hq) ?_
 refine .seq ?_
 refine .pp zS [0, 1, 2] (by intro q hq; simp only [go_sem, zbv, Nat.reduceSub, Int.reduceEq, Nat.reduceLT, Nat.reduceDiv, Nat.reduceAdd, Nat.reduceBEq, Nat.reduceLeDiff, reduceCtorEq, Nat.reduceEqDiff, Nat.reduceMod, capK, Tryz.tm_22, Tryz.tm_3, bij, bik, bjk, bji, bki, bkj]; exact hq) ?_
 refine .seq (.seq ?_)
 refine .pp zS [0, 1, 2, 7] (by intro q hq; simp only [go_sem, zbv, Nat.reduceSub, Int.reduceEq, Nat.reduceLT, Nat.reduceDiv, Nat.reduceAdd, Nat.reduceBEq, Nat.reduceLeDiff, reduceCtorEq, Nat.reduceEqDiff, Nat.reduceMod, capK, Tryz.tm_22, Tryz.tm_3]; exact hq) ?_
 refine .cond rfl rfl (fun hc => by simp at hc) (fun hc => ?_)
 refine .skip (.seq ?_)
 refine .pp zS [0, 1, 2, 7] (by intro q hq; simp only [go_sem, zbv, Nat.reduceSub, Int.reduceEq, Nat.reduceLT, Nat.reduceDiv, Nat.reduceAdd, Nat.reduceBEq, Nat.reduceLeDiff, reduceCtorEq, Nat.reduceEqDiff, Nat.reduceMod, capK, Tryz.tm_22, Tryz.tm_3]; exact hq) ?_
 refine .seq (.seq ?_)
 refine .pp zS [0, 1, 2, 7, 8] (by intro q hq; simp only [go_sem, zbv, Nat.reduceSub, Int.reduceEq, Nat.reduceLT, Nat.reduceDiv, Nat.reduceAdd, Nat.reduceBEq, Nat.reduceLeDiff, reduceCtorEq, Nat.reduceEqDiff, Nat.reduceMod, capK, Tryz.tm_22, Tryz.tm_3]; exact hq) ?_
 refine .cond rfl rfl (fun hc => ?_) (fun hc => by simp at hc)
 refine .seq ?_
 refine .pp zS [0, 2] (by intro q hq; simp only [go_sem, zbv, Nat.reduceSub, Int.reduceEq, Nat.reduceLT, Nat.reduceDiv, Nat.reduceAdd, Nat.reduceBEq, Nat.reduceLeDiff, reduceCtorEq, Nat.reduceEqDiff, Nat.reduceMod, capK, Tryz.tm_22, Tryz.tm_3, bij, bik, bjk, bji, bki, bkj]; exact hq) ?_
 refine .ret ⟨.inr rfl, retH [j, k] ?_ ?_⟩
 simp only [zpv, resL, resD, resT, go_sem, zbv, Nat.reduceSub, Int.reduceEq, Nat.reduceLT, Nat.reduceDiv, Nat.reduceAdd, Nat.reduceBEq, Nat.reduceLeDiff, reduceCtorEq, Nat.reduceEqDiff, Nat.reduceMod, Tryz.f184]
 simp only [zcw, getL, effL, put, del, Nat.beq_refl, cond_true, cond_false, bij, bik, bjk, bji, bki, bkj, List.take_length]
theorem ya5e (i j k : Nat) (hij : i ≠ j) (hik : i ≠ k) (hjk : j ≠ k) (L : List D) (x : D) (P Q : Bool) (at' c : Nat) (hck : capK c = true) (hat : at' < L.length) (hL : L.length < 1000000) (h1 : L.length <= c) (h2 : c < L.length + 1) :
  zby Tryz.prog 184 [.ref i 7 0 L.length (some c), .int .i64 (at' : Int), .ref j 7 0 1 (some 1)] [(i, .arr 91 7 P L), (j, .arr 91 7 Q [x])] (.ref k 7 0 (L.length + 1) none) [(k, some (.arr 91 7 (P && Q) (L.take at' ++ x :: L.drop at'))), (i, none)] (k, k + 1) := by
 obtain rfl : c = L.length := by omega
 have hck2 := hck
 have bij : Nat.beq i j = false := zdi hij
 have bik : Nat.beq i k = false := zdi hik
 have bjk : Nat.beq j k = false := zdi hjk
 have bji : Nat.beq j i = false := zdi (Ne.symm hij)
 have bki : Nat.beq k i = false := zdi (Ne.symm hik)
 have bkj : Nat.beq k j = false := zdi (Ne.symm hjk)
 have hw : wr .i64 ((L.length : Int) + ((1 : Nat) : Int)) = ((L.length + 1 : Nat) : Int) := zl8 _ _ (by show (-9223372036854775808 : Int) <= _; omega) (by show _ <= (9223372036854775807 : Int); omega)
 have hw2 : wr .i64 (((L.length + 1 : Nat) : Int) - (at' : Int)) = ((L.length + 1 - at' : Nat) : Int) := by
  rw [zl8 _ _ (by show (-9223372036854775808 : Int) <= _; omega) (by show _ <= (9223372036854775807 : Int); omega)]
  omega
 have hw3 : wr .i64 ((at' : Int) + ((1 : Nat) : Int)) = ((at' + 1 : Nat) : Int) := zl8 _ _ (by show (-9223372036854775808 : Int) <= _; omega) (by show _ <= (9223372036854775807 : Int); omega)
 have ha : at' + (L.length + 1 - at') = L.length + 1 := by omega
 have pq : (P && Q && P) = (P && Q) := by cases P <;> cases Q <;> rfl
 have hm1 : Nat.min 1 (L.length + 1 - at') = 1 := by show min 1 (L.length + 1 - at') = 1; omega
 have hm2 : Nat.min (L.length - at') (L.length + 1 - (at' + 1)) = L.length - at' := by show min (L.length - at') (L.length + 1 - (at' + 1)) = L.length - at'; omega
 have tk : (L.take at').length = at' := by simp; omega
 have e1 : List.take at' (List.take at' L ++ List.replicate (L.length + 1 - at') (D.agg [D.int .i64 0, D.imm 0 [] 0, D.int .i64 0, D.str [], D.str [], D.int .i64 0, D.bool false])) = List.take at' L := by
  rw [List.take_append_of_le_length (by omega), List.take_of_length_le (by omega)]
 have e2 : List.drop (at' + 1) (List.take at' L ++ List.replicate (L.length + 1 - at') (D.agg [D.int .i64 0, D.imm 0 [] 0, D.int .i64 0, D.str [], D.str [], D.int .i64 0, D.bool false])) = List.replicate (L.length - at') (D.agg [D.int .i64 0, D.imm 0 [] 0, D.int .i64 0, D.str [], D.str [], D.int .i64 0, D.bool false]) := by
  rw [List.drop_append, List.drop_eq_nil_of_le (by omega), tk, zai, List.drop_replicate]
  congr 1; omega
 have e3 : List.take (at' + 1) (List.take at' L ++ [x] ++ List.replicate (L.length - at') (D.agg [D.int .i64 0, D.imm 0 [] 0, D.int .i64 0, D.str [], D.str [], D.int .i64 0, D.bool false])) = List.take at' L ++ [x] := by
  rw [List.take_append_of_le_length (by simp; omega), List.take_of_length_le (by simp; omega)]
 have e4 : List.drop (at' + 1 + (L.length - at')) (List.take at' L ++ [x] ++ List.replicate (L.length - at') (D.agg [D.int .i64 0, D.imm 0 [] 0, D.int .i64 0, D.str [], D.str [], D.int .i64 0, D.bool false])) = [] := List.drop_eq_nil_of_le (by simp; omega)
 have e5 : List.take (L.length - at') (List.drop at' L) = List.drop at' L := List.take_of_length_le (by simp)
 have l1 : (List.take at' L ++ List.replicate (L.length + 1 - at') (D.agg [D.int .i64 0, D.imm 0 [] 0, D.int .i64 0, D.str [], D.str [], D.int .i64 0, D.bool false])).length = L.length + 1 := by simp; omega
 have l2 : (List.take at' L ++ [x] ++ List.replicate (L.length - at') (D.agg [D.int .i64 0, D.imm 0 [] 0, D.int .i64 0, D.str [], D.str [], D.int .i64 0, D.bool false])).length = L.length + 1 := by simp; omega
 refine ziy Tryz.tmOk Tryz.func184 rfl (by decide) (lb rfl) (by simp) ?_
 intro hwf
 refine .seq (.plx zS hck [0, 1, 2] ?_)
 refine .seq (.plx zS (ai Tryz.tm_22 (ai Tryz.tm_3 hck)) [0, 1, 2] ?_)
 refine .seq (.plx zS (ai Tryz.tm_22 (ai Tryz.tm_3 hck)) [0, 1, 2] ?_)
 refine .seq (.seq (.plx zS (ai Tryz.tm_22 (ai Tryz.tm_3 hck)) [0, 1, 2, 7] ?_))
 refine .cond rfl rfl (fun hc => by simp at hc) (fun hc => ?_)
 refine .skip (.seq (.plx zS (ai Tryz.tm_22 (ai Tryz.tm_3 hck)) [0, 1, 2, 7] ?_))
 refine .seq (.seq (.plx zS (ai Tryz.tm_22 (ai Tryz.tm_3 hck)) [0, 1, 2, 7, 8] ?_))
 refine .cond rfl rfl (fun hc => by simp at hc; omega) (fun hc => ?_)
 refine .skip (.seq (.seq (.plx zS (ai Tryz.tm_22 (ai Tryz.tm_3 (ai hck hw))) [0, 1, 2, 7, 8] ?_)))
 refine .cond rfl rfl (fun hc => ?_) (fun hc => by simp at hc; omega)
 refine .seq ?_
 refine .pp zS [0, 1, 2, 7, 8] (by intro q hq; simp only [go_sem, zbv, Nat.reduceSub, Int.reduceEq, Nat.reduceLT, Nat.reduceDiv, Nat.reduceAdd, Nat.reduceBEq, Nat.reduceLeDiff, reduceCtorEq, Nat.reduceEqDiff, Nat.reduceMod, Tryz.tm_22, Tryz.tm_3, hck, hw, hw2, ha, zlo, Int.sub_zero, Int.toNat_zero, Int.toNat_sub, bij, bik, bjk, bji, bki, bkj]; exact hq) ?_
 refine .seq ?_
 refine .pp zS [0, 1, 2, 7, 8, 9] (by intro q hq; simp only [go_sem, zbv, Nat.reduceSub, Int.reduceEq, Nat.reduceLT, Nat.reduceDiv, Nat.reduceAdd, Nat.reduceBEq, Nat.reduceLeDiff, reduceCtorEq, Nat.reduceEqDiff, Nat.reduceMod, Tryz.tm_22, Tryz.tm_3, hck, hw, hw2, ha, zlo, Int.sub_zero, Int.toNat_zero, Int.toNat_sub, bij, bik, bjk, bji, bki, bkj, Int.toNat_sub, hm1, e1, e2, List.take_one, List.take_succ_cons]; exact hq) ?_
 refine .seq ?_
 refine .drawn Tryz.tmOk Tryz.tmMixed [0, 1, 2, 7, 8, 9] (by decide +kernel) (by intro q hq; simp only [go_sem, zbv, Nat.reduceSub, Int.reduceEq, Nat.reduceLT, Nat.reduceDiv, Nat.reduceAdd, Nat.reduceBEq, Nat.reduceLeDiff, reduceCtorEq, Nat.reduceEqDiff, Nat.reduceMod, Tryz.tm_22, Tryz.tm_3, hck, hw, hw2, hw3, ha, zlo, capS, bij, bik, bjk, bji, bki, bkj, Int.toNat_sub, hm1, hm2, e3, e4, e5]; exact hq) (zjm (by kernel_rfl)) (by first | rfl | simp only [go_sem, Nat.reduceLeDiff] <;> rfl | (simp; done) | (simp [oneD] <;> omega) | (simp_all; done) | (simp_all [oneD] <;> omega)) (by first | exact za4 _ | exact lb rfl | (dsimp only; omega) | (simp <;> omega)) ?_
 refine .seq (.plx zS (ai Tryz.tm_22 (ai Tryz.tm_3 hck)) [9] ?_)
 refine .ret ⟨.inr rfl, retH [j, k] ?_ ?_⟩
 simp only [zpv, resL, resD, resT, go_sem, zbv, Nat.reduceSub, Int.reduceEq, Nat.reduceLT, Nat.reduceDiv, Nat.reduceAdd, Nat.reduceBEq, Nat.reduceLeDiff, reduceCtorEq, Nat.reduceEqDiff, Nat.reduceMod, Tryz.f184]
 simp only [zcw, getL, effL, put, del, Nat.beq_refl, cond_true, cond_false, bij, bik, bjk, bji, bki, bkj, pq, List.append_assoc, List.singleton_append, zag]
theorem ya5d (i j k : Nat) (hij : i ≠ j) (L : List D) (x : D) (P Q : Bool) (at' c : Nat) (hck : capK c = true) (hat : at' < L.length) (hL : L.length < 1000000) (h1 : L.length + 1 <= c) :
  zby Tryz.prog 184 [.ref i 7 0 L.length (some c), .int .i64 (at' : Int), .ref j 7 0 1 (some 1)] [(i, .arr 91 7 P L), (j, .arr 91 7 Q [x])] (.ref i 7 0 (L.length + 1) (some c)) [(i, some (.arr 91 7 (P && Q) (L.take at' ++ x :: L.drop at')))] (k, k) := by
 have bij : Nat.beq i j = false := zdi hij
 have bji : Nat.beq j i = false := zdi (Ne.symm hij)
 have hw : wr .i64 ((L.length : Int) + ((1 : Nat) : Int)) = ((L.length + 1 : Nat) : Int) := zl8 _ _ (by show (-9223372036854775808 : Int) <= _; omega) (by show _ <= (9223372036854775807 : Int); omega)
 have hw3 : wr .i64 ((at' : Int) + ((1 : Nat) : Int)) = ((at' + 1 : Nat) : Int) := zl8 _ _ (by show (-9223372036854775808 : Int) <= _; omega) (by show _ <= (9223372036854775807 : Int); omega)
 have hm1 : Nat.min 1 (L.length + 1 - at') = 1 := by show min 1 (L.length + 1 - at') = 1; omega
 have hm2 : Nat.min (L.length + 1 - at') (L.length + 1 - (at' + 1)) = L.length - at' := by show min (L.length + 1 - at') (L.length + 1 - (at' + 1)) = L.length - at'; omega
 have hn1 : L.length + 1 - (at' + 1) = (L.length - at' - 1) + 1 := by omega
 have tk : (L.take at').length = at' := by simp; omega
 have tk1 : (L.take (at' + 1)).length = at' + 1 := by simp; omega
 have e5 : List.take (L.length - at') (List.drop at' L) = List.drop at' L := List.take_of_length_le (by simp)
 have e4 : List.drop (at' + 1 + (L.length - at')) L = [] := List.drop_eq_nil_of_le (by omega)
 have e1 : List.take at' (List.take (at' + 1) L ++ List.drop at' L) = List.take at' L := by
  rw [List.take_append_of_le_length (by omega), List.take_take]
  congr 1; omega
 have e2 : List.drop (at' + 1) (List.take (at' + 1) L ++ List.drop at' L) = List.drop at' L := by
  rw [List.drop_append, List.drop_eq_nil_of_le (by omega), tk1, Nat.sub_self, List.drop_zero, zai]
 refine ziy Tryz.tmOk Tryz.func184 rfl (by decide) (lb rfl) (by simp) ?_
 intro hwf
 refine .seq (.plx zS hck [0, 1, 2] ?_)
 refine .seq (.plx zS (ai Tryz.tm_22 (ai Tryz.tm_3 hck)) [0, 1, 2] ?_)
 refine .seq (.plx zS (ai Tryz.tm_22 (ai Tryz.tm_3 hck)) [0, 1, 2] ?_)
 refine .seq (.seq (.plx zS (ai Tryz.tm_22 (ai Tryz.tm_3 hck)) [0, 1, 2, 7] ?_))
 refine .cond rfl rfl (fun hc => by simp at hc) (fun hc => ?_)
 refine .skip (.seq (.plx zS (ai Tryz.tm_22 (ai Tryz.tm_3 hck)) [0, 1, 2, 7] ?_))
 refine .seq (.seq (.plx zS (ai Tryz.tm_22 (ai Tryz.tm_3 hck)) [0, 1, 2, 7, 8] ?_))
 refine .cond rfl rfl (fun hc => by simp at hc; omega) (fun hc => ?_)
 refine .skip (.seq (.seq (.plx zS (ai Tryz.tm_22 (ai Tryz.tm_3 (ai hck hw))) [0, 1, 2, 7, 8] ?_)))
 refine .cond rfl rfl (fun hc => by simp at hc; omega) (fun hc => ?_)
 refine .skip (.seq ?_)
 refine .pp zS [0, 1, 2, 7, 8] (by intro q hq; simp only [go_sem, zbv, Nat.reduceSub, Int.reduceEq, Nat.reduceLT, Nat.reduceDiv, Nat.reduceAdd, Nat.reduceBEq, Nat.reduceLeDiff, reduceCtorEq, Nat.reduceEqDiff, Nat.reduceMod, Tryz.tm_22, Tryz.tm_3, hck, hw, zvb, Option.isSome, Int.sub_zero, Int.toNat_zero, Nat.sub_zero, bij, bji]; exact hq) ?_
 refine .seq (.seq ?_)
 refine .reg Tryz.tmOk Tryz.tmMixed [0, 1, 2, 7] (by decide +kernel) ?_
 refine .R (dr := false) (.inr fun _ _ _ h => ⟨nofun, h.2⟩) (by intro q hq; simp only [go_sem, zbv, Nat.reduceSub, Int.reduceEq, Nat.reduceLT, Nat.reduceDiv, Nat.reduceAdd, Nat.reduceBEq, Nat.reduceLeDiff, reduceCtorEq, Nat.reduceEqDiff, Nat.reduceMod, Tryz.tm_22, Tryz.tm_3, hck, hw3, Int.toNat_sub, bij, bji]; exact hq) (by first | rfl | simp only [go_sem, Nat.reduceLeDiff] <;> rfl | (simp; done) | (simp [oneD] <;> omega) | (simp_all; done) | (simp_all [oneD] <;> omega)) (by first | exact za4 _ | exact lb rfl | (dsimp only; omega) | (simp <;> omega)) ?_
 refine .overs (i := j) (j := i) rfl rfl rfl rfl rfl ya37 ⟨7, 0, 0, some 1, 7 - 1, at' + 1, L.length - at' - 1, some (c - (at' + 1)), 91, 7, Q, [x], 91, 7, P, L, by
  show [D.ref j 7 0 1 (some 1), D.ref i 7 (at' + 1) (L.length + 1 - (at' + 1)) (some (c - (at' + 1)))] = _
  rw [hn1], by simp only [getL, bij, cond_false, Nat.beq_refl, cond_true], by simp only [getL, Nat.beq_refl, cond_true], Ne.symm hij⟩ ?_
 refine .R (dr := false) (.inr fun _ _ _ h => ⟨nofun, h.2⟩) (by intro q hq; simp only [go_sem, zbv, Nat.reduceSub, Int.reduceEq, Nat.reduceLT, Nat.reduceDiv, Nat.reduceAdd, Nat.reduceBEq, Nat.reduceLeDiff, reduceCtorEq, Nat.reduceEqDiff, Nat.reduceMod, Tryz.tm_22, Tryz.tm_3, hck]; exact hq) (by first | rfl | simp only [go_sem, Nat.reduceLeDiff] <;> rfl | (simp; done) | (simp [oneD] <;> omega) | (simp_all; done) | (simp_all [oneD] <;> omega)) (by first | exact za4 _ | exact lb rfl | (dsimp only; omega) | (simp <;> omega)) ?_
 refine .nn ?_
 refine .cond rfl rfl (fun hc => ?_) (fun hc => by cases hc)
 refine .seq ?_
 refine .drawn Tryz.tmOk Tryz.tmMixed [0, 1, 2, 7] (by decide +kernel) (by intro q hq; simp only [go_sem, zbv, Nat.reduceSub, Int.reduceEq, Nat.reduceLT, Nat.reduceDiv, Nat.reduceAdd, Nat.reduceBEq, Nat.reduceLeDiff, reduceCtorEq, Nat.reduceEqDiff, Nat.reduceMod, Tryz.tm_22, Tryz.tm_3, hck, hw3, Int.toNat_sub, hm2, e4, e5, bij, bji, Bool.and_self, zag]; exact hq) (zjm (by kernel_rfl)) (by first | rfl | simp only [go_sem, Nat.reduceLeDiff] <;> rfl | (simp; done) | (simp [oneD] <;> omega) | (simp_all; done) | (simp_all [oneD] <;> omega)) (by first | exact za4 _ | exact lb rfl | (dsimp only; omega) | (simp <;> omega)) ?_
 refine .seq ?_
 refine .pp zS [0, 1, 2] (by intro q hq; simp only [go_sem, zbv, Nat.reduceSub, Int.reduceEq, Nat.reduceLT, Nat.reduceDiv, Nat.reduceAdd, Nat.reduceBEq, Nat.reduceLeDiff, reduceCtorEq, Nat.reduceEqDiff, Nat.reduceMod, Tryz.tm_22, Tryz.tm_3, hck, Int.toNat_sub, hm1, e1, e2, bij, bji, List.take_succ_cons]; exact hq) ?_
 refine .seq (.plx zS (ai Tryz.tm_22 (ai Tryz.tm_3 hck)) [0] ?_)
 refine .ret ⟨.inr rfl, retH [i, j] ?_ ?_⟩
 simp only [zpv, resL, resD, resT, go_sem, zbv, Nat.reduceSub, Int.reduceEq, Nat.reduceLT, Nat.reduceDiv, Nat.reduceAdd, Nat.reduceBEq, Nat.reduceLeDiff, reduceCtorEq, Nat.reduceEqDiff, Nat.reduceMod, Tryz.f184]
 simp only [zcw, getL, effL, put, del, Nat.beq_refl, cond_true, cond_false, bij, bji, List.append_assoc, List.singleton_append, zag]
theorem ya7z (i j k : Nat) (hij : i ≠ j) (hik : i ≠ k) (hjk : j ≠ k) (L : List D) (x : D) (P Q : Bool) (at' : Nat) (hat : at' <= L.length) (hL : L.length < 1000000) :
  zby Tryz.prog 184 [.ref i 7 0 L.length (some uC), .int .i64 (at' : Int), .ref j 7 0 1 (some 1)] [(i, .arr 91 7 P L), (j, .arr 91 7 Q [x])] (.ref k 7 0 (L.length + 1) (some uC)) [(k, some (.arr 91 7 (P && Q) (L.take at' ++ x :: L.drop at'))), (i, none)] (k, k + 1) := by
 by_cases h : at' = L.length
 subst h
 have := ya1r i j k hij hik hjk L x P Q hL
 rw [List.take_length, List.drop_length]
 exact this
 exact ztp (l := L) (p := P) (ya1r i j k hij hik hjk L x P Q hL).1 (by simp only [getL, Nat.beq_refl, cond_true]) hik (by omega)
  (fun c hc _ h2 => ya5d i j k hij L x P Q at' c hc (by omega) hL h2)
  (fun c hc h1 h2 => ya5e i j k hij hik hjk L x P Q at' c hc (by omega) hL h1 h2)
end Go.Proofs
namespace Go.Proofs
open Go.Tm Go.RowKit Go.WideShapes
set_option maxRecDepth 100000
set_option linter.unusedSimpArgs false
set_option linter.unusedVariables false
attribute [local go_sem] zfn runE runK zj1 zt2 aop opd zoc opds opdO ev zvi keep List.any natbeq Bool.false_or Bool.true_or zg3 cond_true cond_false Bool.cond_false_right Bool.cond_true_left beq_true beq_false imp_self implies_true getR getL put St.app effL del nwB zxl Nat.lt_irrefl Nat.lt_add_one zxm za4 Nat.beq_refl zk7 capS zuc zri zdp D.ids D.idsL bin ya04 zr2 binT zw4 Tm.part zo2 zs6 oneD zro zo1 srcD zgc zoj decide_true gval zq6 D.cells zah List.map_nil List.take List.drop List.length_map List.append Int.toNat_natCast and_true true_and decide_false za5 zac zag zai Bool.and_true Bool.true_and Bool.not_false Bool.not_true ne_eq not_false_eq_true BEq.rfl List.getElem?_cons_zero List.getElem?_cons_succ List.getElem?_nil Nat.zero_add List.all_cons List.all_nil List.isEmpty_cons List.isEmpty_nil Option.getD_some Option.getD_none List.any_cons List.any_nil List.drop_succ_cons List.drop_zero unfL unf okM okML low3 zal true_or or_true Nat.zero_mul Nat.zero_le fpOf zod
theorem ya5o (i k : Nat) (L : List D) (P : Bool) (at' c : Nat) (hck : capK c = true) (hat : at' < L.length) (hL : L.length < 1000000) (h1 : L.length <= c) :
  zby Tryz.prog 185 [.ref i 7 0 L.length (some c), .int .i64 (at' : Int), .int .i64 ((at' + 1 : Nat) : Int)] [(i, .arr 91 7 P L)] (.ref i 7 0 (L.length - 1) (some c)) [(i, some (.arr 91 7 P (L.take at' ++ L.drop (at' + 1))))] (k, k) := by
 have e5 : List.take (L.length - (at' + 1)) (List.drop (at' + 1) L) = List.drop (at' + 1) L := List.take_of_length_le (by simp)
 have hl : at' + (L.drop (at' + 1)).length = L.length - 1 := by simp; omega
 have hm : Nat.blt at' L.length = true := zam hat
 have hcL : L.length - 1 <= c := by omega
 have hm2 : at' < L.length := hat
 have hne : ¬ ((at' : Int) = ((at' + 1 : Nat) : Int)) := by omega
 have ha : Nat.beq at' (at' + 1) = false := zdi (by omega)
 have l1 : (L.take at' ++ L.drop (at' + 1)).length = L.length - 1 := by simp; omega
 have l2 : (L.take at' ++ L.drop (at' + 1) ++ L.drop (L.length - 1)).length = L.length := by simp; omega
 have t1 : List.take (L.length - 1) (L.take at' ++ L.drop (at' + 1) ++ L.drop (L.length - 1)) = L.take at' ++ L.drop (at' + 1) := by
  rw [List.take_append_of_le_length (by omega), List.take_of_length_le (by omega)]
 have t2 : ∀ R S : List D, List.take (L.length - 1) (L.take at' ++ L.drop (at' + 1) ++ R ++ S) = L.take at' ++ L.drop (at' + 1) := fun R S => by
  rw [List.append_assoc _ R S, List.take_append_of_le_length (by omega), List.take_of_length_le (by omega)]
 have q1 : Int.toNat ((L.length : Int) - ((L.length - 1 : Nat) : Int)) = 1 := by omega
 have q2 : Int.toNat ((L.length - 1 : Nat) : Int) = L.length - 1 := by omega
 have q3 : Int.toNat (((L.length : Int)) - ((at' + 1 : Nat) : Int)) = L.length - (at' + 1) := by omega
 refine ziy Tryz.tmOk Tryz.func185 rfl (by decide) (lb rfl) (by simp) ?_
 intro hwf
 refine .seq (.plx zS hck [0, 1, 2] ?_)
 refine .seq ?_
 refine .pp zS [0, 1, 2] (by intro q hq; simp only [go_sem, zbv, Nat.reduceSub, Int.reduceEq, Nat.reduceLT, Nat.reduceDiv, Nat.reduceAdd, Nat.reduceBEq, Nat.reduceLeDiff, reduceCtorEq, Nat.reduceEqDiff, Nat.reduceMod, Tryz.tm_22, Tryz.tm_3, hck, zkf, opdO]; exact hq) ?_
 refine .seq (.seq (.plx zS (ai Tryz.tm_22 (ai Tryz.tm_3 hck)) [0, 1, 2] ?_))
 refine .cond rfl rfl (fun hc => by simp at hc; omega) (fun hc => ?_)
 refine .skip (.seq (.plx zS (ai Tryz.tm_22 (ai Tryz.tm_3 hck)) [0, 1, 2] ?_))
 refine .seq ?_
 refine .drawn Tryz.tmOk Tryz.tmMixed [0, 1, 2, 7] (by decide +kernel) (by intro q hq; simp only [go_sem, zbv, Nat.reduceSub, Int.reduceEq, Nat.reduceLT, Nat.reduceDiv, Nat.reduceAdd, Nat.reduceBEq, Nat.reduceLeDiff, reduceCtorEq, Nat.reduceEqDiff, Nat.reduceMod, Tryz.tm_22, Tryz.tm_3, hck, hm2, hcL, e5, q3, hl, Bool.and_self, Int.sub_zero, Int.toNat_zero, Nat.sub_zero, zhw]; exact hq) (zjm (by kernel_rfl)) (by first | rfl | simp only [go_sem, Nat.reduceLeDiff] <;> rfl | (simp; done) | (simp [oneD] <;> omega) | (simp_all; done) | (simp_all [oneD] <;> omega)) (by first | exact za4 _ | exact lb rfl | (dsimp only; omega) | (simp <;> omega)) ?_
 refine .seq ?_
 refine .pp zS [0, 7] (by intro q hq; simp only [go_sem, zbv, Nat.reduceSub, Int.reduceEq, Nat.reduceLT, Nat.reduceDiv, Nat.reduceAdd, Nat.reduceBEq, Nat.reduceLeDiff, reduceCtorEq, Nat.reduceEqDiff, Nat.reduceMod, Tryz.tm_22, Tryz.tm_3, hck, zvb, Option.isSome, q1, q2, t1, l2, Nat.zero_add]; exact hq) ?_
 refine .goes (.pre i (L.length - 1) _ (by simp only [getL, Nat.beq_refl, cond_true]; rfl) .refl) ?_
 simp only [put, Nat.beq_refl, cond_true, t2]
 refine .seq (.plx zS (ai Tryz.tm_22 (ai Tryz.tm_3 hck)) [0] ?_)
 refine .ret ⟨.inr rfl, retH [i] ?_ ?_⟩
 simp only [zpv, resL, resD, resT, go_sem, zbv, Nat.reduceSub, Int.reduceEq, Nat.reduceLT, Nat.reduceDiv, Nat.reduceAdd, Nat.reduceBEq, Nat.reduceLeDiff, reduceCtorEq, Nat.reduceEqDiff, Nat.reduceMod, Tryz.f185]
 simp only [zcw, getL, effL, put, del, Nat.beq_refl, cond_true, cond_false, List.append_assoc, List.singleton_append, zag]
theorem ya87 (i k : Nat) (hik : i ≠ k) (L : List D) (P : Bool) (at' : Nat) (hat : at' < L.length) (hL : L.length < 1000000) :
  zby Tryz.prog 185 [.ref i 7 0 L.length (some uC), .int .i64 (at' : Int), .int .i64 ((at' + 1 : Nat) : Int)] [(i, .arr 91 7 P L)] (.ref k 7 0 (L.length - 1) (some uC)) [(k, some (.arr 91 7 P (L.take at' ++ L.drop (at' + 1)))), (i, none)] (k, k + 1) := by
 exact ztp (l := L) (p := P) ⟨Tryz.f185, Tryz.func185, by decide, rfl⟩ (by simp only [getL, Nat.beq_refl, cond_true]) hik (.inr (by omega))
   (fun c hc h1 _ => ya5o i k L P at' c hc hat hL h1)
   (fun c hc h1 h2 => by omega)
end Go.Proofs
namespace Go.Proofs
open Go.Tm
structure TMessage where
 Id : Int
 Groups : List Int
 Topic : Int
 Key : List UInt8
 Body : List UInt8
 deriving Inhabited, DecidableEq
structure TWait where
 Message : TMessage
 Time : Int
 Final : Bool
 deriving Inhabited, DecidableEq
structure TStamp where
 Time : Int
 Id : Int
 deriving Inhabited, DecidableEq
structure TSkeen where
 Clock : Int
 Waits : List TWait
 Done : List TStamp
 deriving Inhabited, DecidableEq
structure TCommand where
 Kind : Int
 Message : TMessage
 Id : Int
 Time : Int
 Members : List Int
 Topic : Int
 Who : Int
 N : Int
 deriving Inhabited, DecidableEq
structure Tskeen_clock where
 Skeen : TSkeen
 deriving Inhabited, DecidableEq
def TMessage.d (x : TMessage) : D := .agg [.int .i64 x.Id, .imm 1 (x.Groups.map (D.int .i64)) 4, .int .i64 x.Topic, .str x.Key, .str x.Body]
def TMessage.n (x : TMessage) : D := .agg [.int .i64 x.Id, .imm 1 (x.Groups.map (D.int .i64)) 13, .int .i64 x.Topic, .str x.Key, .str x.Body]
theorem zve : PlN TMessage.n TMessage.d := ⟨fun _ => rfl, fun _ => rfl, fun _ => by first | rfl | simp [TMessage.n, okM, okML, low3], fun _ => by first | rfl | simp [TMessage.n, okM, okML, new1]⟩
def TWait.d (x : TWait) : D := .agg [.int .i64 x.Message.Id, .imm 1 (x.Message.Groups.map (D.int .i64)) 4, .int .i64 x.Message.Topic, .str x.Message.Key, .str x.Message.Body, .int .i64 x.Time, .bool x.Final]
def TWait.n (x : TWait) : D := .agg [.int .i64 x.Message.Id, .imm 1 (x.Message.Groups.map (D.int .i64)) 13, .int .i64 x.Message.Topic, .str x.Message.Key, .str x.Message.Body, .int .i64 x.Time, .bool x.Final]
theorem zjv : PlN TWait.n TWait.d := ⟨fun _ => rfl, fun _ => rfl, fun _ => by first | rfl | simp [TWait.n, okM, okML, low3], fun _ => by first | rfl | simp [TWait.n, okM, okML, new1]⟩
def TStamp.d (x : TStamp) : D := .agg [.int .i64 x.Time, .int .i64 x.Id]
theorem zm8 : Pl TStamp.d := ⟨fun _ => rfl, fun _ => rfl, fun q h _ => by first | rfl | simp [TStamp.d, okM, okML, h]⟩
theorem zzq (l : List TStamp) : mkML 1 (l.map TStamp.d) = l.map TStamp.d := zlc 1 (fun _ => rfl) l
theorem zmu : Pl0 TStamp.d := ⟨zm8, fun _ _ => rfl⟩
def TSkeen.d (x : TSkeen) : D := .agg [.int .i64 x.Clock, .imm 7 (x.Waits.map TWait.d) 4, .imm 2 (x.Done.map TStamp.d) 4]
def TSkeen.n (x : TSkeen) : D := .agg [.int .i64 x.Clock, .imm 7 (x.Waits.map TWait.d) 13, .imm 2 (x.Done.map TStamp.d) 13]
def TCommand.d (x : TCommand) : D := .agg [.int .u8 x.Kind, .int .i64 x.Message.Id, .imm 1 (x.Message.Groups.map (D.int .i64)) 4, .int .i64 x.Message.Topic, .str x.Message.Key, .str x.Message.Body, .int .i64 x.Id, .int .i64 x.Time, .imm 1 (x.Members.map (D.int .i64)) 4, .int .i64 x.Topic, .int .i64 x.Who, .int .i64 x.N]
def TCommand.n (x : TCommand) : D := .agg [.int .u8 x.Kind, .int .i64 x.Message.Id, .imm 1 (x.Message.Groups.map (D.int .i64)) 13, .int .i64 x.Message.Topic, .str x.Message.Key, .str x.Message.Body, .int .i64 x.Id, .int .i64 x.Time, .imm 1 (x.Members.map (D.int .i64)) 13, .int .i64 x.Topic, .int .i64 x.Who, .int .i64 x.N]
theorem zvf : PlN TCommand.n TCommand.d := ⟨fun _ => rfl, fun _ => rfl, fun _ => by first | rfl | simp [TCommand.n, okM, okML, low3], fun _ => by first | rfl | simp [TCommand.n, okM, okML, new1]⟩
def Tskeen_clock.d (x : Tskeen_clock) : D := .agg [.int .i64 x.Skeen.Clock, .imm 7 (x.Skeen.Waits.map TWait.d) 4, .imm 2 (x.Skeen.Done.map TStamp.d) 4]
def Tskeen_clock.n (x : Tskeen_clock) : D := .agg [.int .i64 x.Skeen.Clock, .imm 7 (x.Skeen.Waits.map TWait.d) 13, .imm 2 (x.Skeen.Done.map TStamp.d) 13]
structure TEntry where
 Offset : Int
 Id : Int
 Key : List UInt8
 Body : List UInt8
 deriving Inhabited, DecidableEq
structure TTopic where
 Base : Int
 Next : Int
 Mark : Int
 Entries : List TEntry
 deriving Inhabited, DecidableEq
structure TStream where
 Topics : List TTopic
 Commits : List (List Int)
 deriving Inhabited, DecidableEq
structure THome where
 Skeen : TSkeen
 Stream : TStream
 Last : List Int
 deriving Inhabited, DecidableEq
structure TTook where
 Id : Int
 Topic : Int
 Offset : Int
 deriving Inhabited, DecidableEq
def TEntry.d (x : TEntry) : D := .agg [.int .i64 x.Offset, .int .i64 x.Id, .str x.Key, .str x.Body]
theorem ya1c : Pl TEntry.d := ⟨fun _ => rfl, fun _ => rfl, fun q h _ => by first | rfl | simp [TEntry.d, okM, okML, h]⟩
theorem zzr (l : List TEntry) : mkML 1 (l.map TEntry.d) = l.map TEntry.d := zlc 1 (fun _ => rfl) l
theorem zi5 : Pl0 TEntry.d := ⟨ya1c, fun _ _ => rfl⟩
def TTopic.d (x : TTopic) : D := .agg [.int .i64 x.Base, .int .i64 x.Next, .int .i64 x.Mark, .imm 4 (x.Entries.map TEntry.d) 4]
def TTopic.n (x : TTopic) : D := .agg [.int .i64 x.Base, .int .i64 x.Next, .int .i64 x.Mark, .imm 4 (x.Entries.map TEntry.d) 13]
theorem zgk : PlN TTopic.n TTopic.d := ⟨fun _ => rfl, fun _ => rfl, fun _ => by first | rfl | simp [TTopic.n, okM, okML, low3], fun _ => by first | rfl | simp [TTopic.n, okM, okML, new1]⟩
def dL_inti64 (l : List Int) : D := .imm 1 (l.map (D.int .i64)) 4
def zbw (l : List Int) : D := .imm 1 (l.map (D.int .i64)) 13
theorem zcv : PlN zbw dL_inti64 := ⟨fun _ => rfl, fun _ => rfl, fun _ => rfl, fun _ => rfl⟩
def TStream.d (x : TStream) : D := .agg [.imm 4 (x.Topics.map TTopic.d) 4, .imm 1 (x.Commits.map dL_inti64) 4]
def TStream.n (x : TStream) : D := .agg [.imm 4 (x.Topics.map TTopic.d) 13, .imm 1 (x.Commits.map dL_inti64) 13]
def THome.d (x : THome) : D := .agg [.int .i64 x.Skeen.Clock, .imm 7 (x.Skeen.Waits.map TWait.d) 4, .imm 2 (x.Skeen.Done.map TStamp.d) 4, .imm 4 (x.Stream.Topics.map TTopic.d) 4, .imm 1 (x.Stream.Commits.map dL_inti64) 4, .imm 1 (x.Last.map (D.int .i64)) 4]
def THome.n (x : THome) : D := .agg [.int .i64 x.Skeen.Clock, .imm 7 (x.Skeen.Waits.map TWait.d) 13, .imm 2 (x.Skeen.Done.map TStamp.d) 13, .imm 4 (x.Stream.Topics.map TTopic.d) 13, .imm 1 (x.Stream.Commits.map dL_inti64) 13, .imm 1 (x.Last.map (D.int .i64)) 13]
def TTook.d (x : TTook) : D := .agg [.int .i64 x.Id, .int .i64 x.Topic, .int .i64 x.Offset]
theorem ya35 : Pl TTook.d := ⟨fun _ => rfl, fun _ => rfl, fun q h _ => by first | rfl | simp [TTook.d, okM, okML, h]⟩
theorem ya1j (l : List TTook) : mkML 1 (l.map TTook.d) = l.map TTook.d := zlc 1 (fun _ => rfl) l
theorem zkp : Pl0 TTook.d := ⟨ya35, fun _ _ => rfl⟩
end Go.Proofs
namespace Go.Tm
open Go.RowKit Go.WideShapes
def ya4y (s : Nat) : Nat -> List Nat -> List D
 | _, [] => []
 | F, n :: r => .ref F s 0 n (some uC) :: ya4y s (F + 1) r
theorem Goes.blk {lim n0 : Nat} {st s : St} (id : Nat) (blk blk' : Blk) (hd : getL st.heap id = some blk) (hw : ∀ C : Cx, C.rf = true -> holds C id blk -> holds C id blk') (h : Goes lim n0 ⟨st.vars, put st.heap id blk', st.nx⟩ s) : Goes lim n0 st s := by
 intro E n F a w g hE hF hR
 obtain ⟨h1, h2, h3⟩ := hF
 have hid : F.hp id = some blk := by rw [h2]; exact hd
 have hp : ∀ i, getL (put st.heap id blk') i = if id = i then some blk' else F.hp i := by
  intro i; rw [zgb, h2]
 have hne : ∀ i, getL (put st.heap id blk') i ≠ none ↔ F.hp i ≠ none := by
  intro i
  rw [hp]
  by_cases e : id = i
  subst e; simp [hid]
  rw [if_neg e]
 have hown : ownB g (getL (put st.heap id blk')) = ownB g F.hp := by
  funext b
  apply propext
  constructor
  rintro ⟨i, o, k1, k2⟩; exact ⟨i, o, (hne i).1 k1, k2⟩
  rintro ⟨i, o, k1, k2⟩; exact ⟨i, o, (hne i).2 k1, k2⟩
 have hcx : cx w g (getL (put st.heap id blk')) = cx w g F.hp := by simp only [cx, hown]
 refine h E n ⟨F.rd, getL (put st.heap id blk'), F.nu⟩ a w g hE ⟨h1, rfl, h3⟩ ⟨hR.sz, hR.df, fun t => by rw [hcx]; exact hR.rd t, ⟨fun i blk2 hb => ?_, fun i i' b o o' k1 k2 => hR.mem.inj i i' b o o' ((hne i).1 k1) ((hne i').1 k2), fun i hi => ?_, ?_, hR.mem.fl⟩, fun i b o k1 => hR.base i b o ((hne i).1 k1), hR.keep, hR.gz, hR.gs, hR.nu⟩
 have hb : getL (put st.heap id blk') i = some blk2 := hb
 rw [hcx]
 rw [hp] at hb
 by_cases e : id = i
 subst e
 rw [if_pos rfl] at hb
 cases hb
 exact hw _ rfl (hR.mem.hd id _ hid)
 rw [if_neg e] at hb
 exact hR.mem.hd i blk2 hb
 obtain ⟨k1, k2⟩ := hR.mem.nw i hi
 refine ⟨k1, ?_⟩
 rcases Classical.em (getL (put st.heap id blk') i = none) with e | e
 exact e
 exact absurd k2 ((hne i).1 e)
 rw [hown]; exact hR.mem.zs
theorem Goes.pf {lim n0 : Nat} {st s : St} (id : Nat) {e s' : Nat} {p : Bool} {items : List D} (hd : getL st.heap id = some (.arr e s' p items)) (h : Goes lim n0 ⟨st.vars, put st.heap id (.arr e s' false items), st.nx⟩ s) : Goes lim n0 st s :=
 .blk id _ _ hd (fun _ hC h => zqt hC (fun h => by cases h) h) h
theorem Goes.sub {lim n0 : Nat} {st s : St} (V H : List Nat) (h1 : (⟨zcw V st.vars, zcw H st.heap, s.nx⟩ : St) = s := by first | with_reducible rfl | rfl | (simp only [go_sem, Nat.reduceBEq, Nat.reduceAdd]; rfl)) (hn : st.nx <= s.nx := by exact lb rfl) : Goes lim n0 st s :=
 fun _ _ _ _ _ g _ hF hR => by
  obtain ⟨F', h2, h3⟩ := hR.sub hF (ya43 V H st hn)
  rw [h1] at h2
  exact ⟨F', g, h2, h3⟩
section
variable {fr : Nat} {w : World} {g : Gh} {hp : Nat -> Option Blk}
end
end Go.Tm
namespace Go.Tm
open Go.RowKit Go.WideShapes
theorem ya1w {w : World} {g : Gh} {hp hp' : Nat -> Option Blk} {Z : Nat -> Prop} (hs : ∀ id, hp' id ≠ none -> hp id ≠ none) : ((cx w g hp).at Z).Le ((cx w g hp').at Z) :=
 Cx.Le.inner (C := cx w g hp) (C' := cx w g hp') (fun _ _ => rfl) fun _ h1 h2 _ => ⟨fun ⟨id, o, k1, k2⟩ => h1 ⟨id, o, hs id k1, k2⟩, h2, rfl⟩
theorem tn1 : Int.toNat 1 = 1 := rfl
theorem tn2 : Int.toNat 2 = 2 := rfl
theorem tn3 : Int.toNat 3 = 3 := rfl
mutual
theorem zym {w : World} {g : Gh} {hp hp' : Nat -> Option Blk} {Z1 : Nat -> Prop} (hs : ∀ id, hp' id ≠ none -> hp id ≠ none) (hd : ∀ id blk, hp id = some blk -> holds (cx w g hp) id blk) (hinj : ∀ id id' b o o', hp id ≠ none -> hp id' ≠ none -> g.σ id = some (b, o) -> g.σ id' = some (b, o') -> id = id') (hz : g.zn 1 = some Z1) (ho : ∀ b, ownB g hp b -> Z1 b) : ∀ (d : D) (v : Value), (∀ id ∈ d.ids, hp' id = none) -> rep (cx w g hp) d v -> (frz hp d).2 = true -> rep (cx w g hp') (frz hp d).1 v
 | .ref id s off len oc, v, hid, h, hp2 => by
  simp only [frz] at hp2 ⊢
  split at hp2
  rename_i e s' p items hb
  simp only [za0, List.isEmpty_iff] at hp2 ⊢
  obtain ⟨⟨⟨⟨h1, hl⟩, rfl⟩, hk⟩, hi⟩ := hp2
  obtain rfl := nb h1
  have hl := lb hl
  simp only [rep] at h
  obtain ⟨_, ad, cap, rfl, h1, h2, h3, _, h4⟩ := h
  have hlen : (unfL ((items.drop off).take len)).length = len := by rw [zjk]; simp; omega
  simp only [rep]
  refine ⟨ad, cap, by rw [hlen], by omega, h2, by simp, by simp, by simp, h3, fun _ => rfl, ?_⟩
  by_cases hz0 : len = 0
  left; subst hz0; simp [unfL]
  right
  rcases h4 with h4 | ⟨b, T, nn, hσ, rfl, hsh, hn⟩
  omega
  rcases hd id _ hb with ⟨rfl, _⟩ | ⟨b', cs, hσ', hblk, hsz, hel⟩
  simp at hl; omega
  have e := hσ'.symm.trans hσ
  simp only [za3, za6] at e
  obtain ⟨rfl, _⟩ := e
  intro Z' hZ'
  have hZ' : Z1 = Z' := by
   have : g.zn 1 = some Z' := by simpa [Cx.zone, cx] using hZ'
   rw [hz] at this
   exact sj this
  subst hZ'
  refine ⟨_, rfl, rfl, ?_, ho _ ⟨id, 0, by rw [hb]; simp, hσ⟩, ⟨(Array.getElem?_eq_some_iff.1 hblk).1, fun _ => ⟨cs, _, hblk⟩⟩, ?_⟩
  rintro ⟨id2, o2, k1, k2⟩
  have := hinj id id2 b' 0 o2 (by rw [hb]; simp) (hs id2 k1) hσ k2
  subst this
  exact k1 (hid id (by simp [D.ids]))
  have he := zg6 _ len _ _ _ (zhc _ off _ _ _ hel)
  have he2 := zn1 (C := { cx w g hp with rf := !true }) (q := new1) (Zt := Z1) (fun m hm => ⟨Z1, by
   obtain rfl : m = 1 := nb hm
   simpa [Cx.zone, cx] using hz, fun b _ hb _ => hb⟩) _ _ _ _ hk hi he
  rw [Nat.zero_add] at he2
  exact zfe (C := (cx w g hp).at Z1) (ya1w hs) _ _ _ _ rfl he2
  cases hp2
 | .imm s l c, v, _, h, hp2 => by
  simp only [frz] at hp2 ⊢
  refine zew (C := cx w g hp) (C' := cx w g hp') ⟨fun m _ Z' hZ' => ⟨Z', hZ', fun b k1 k2 k3 => ⟨?_, k2, .refl k3⟩⟩, fun _ _ => rfl, fun x => x, fun x => x, fun _ _ _ => rfl⟩ _ _ h
  rintro ⟨id, o, k3, k4⟩
  exact k1 ⟨id, o, hs id k3, k4⟩
 | .agg l, v, hid, h, hp2 => by
  simp only [frz] at hp2 ⊢
  simp only [rep] at h ⊢
  obtain ⟨cs, rfl, h⟩ := h
  exact ⟨cs, rfl, zug hs hd hinj hz ho l cs hid h hp2⟩
 | .tuple l, v, hid, h, hp2 => by
  simp only [frz] at hp2 ⊢
  simp only [rep] at h ⊢
  obtain ⟨cs, rfl, h⟩ := h
  exact ⟨cs, rfl, zug hs hd hinj hz ho l cs hid h hp2⟩
 | .iface t d, v, hid, h, hp2 => by
  simp only [frz] at hp2 ⊢
  simp only [rep] at h ⊢
  obtain ⟨x, rfl, h⟩ := h
  exact ⟨x, rfl, zym hs hd hinj hz ho d x hid h hp2⟩
 | .bool b, v, _, h, _ => by simpa only [frz, rep] using h
 | .int k n, v, _, h, _ => by simpa only [frz, rep] using h
 | .str l, v, _, h, _ => by simpa only [frz, rep] using h
 | .nilptr, v, _, h, _ => by simpa only [frz, rep] using h
 | .nilfn, v, _, h, _ => by simpa only [frz, rep] using h
 | .nilIface, v, _, h, _ => by simpa only [frz, rep] using h
 | .nilmap, v, _, h, _ => by simpa only [frz, rep] using h
 | .ptr _ _, _, _, _, hp2 | .eptr _ _ _ _, _, _, _, hp2 | .iptr _ _, _, _, _, hp2 | .fn _ _, _, _, _, hp2 | .mref _, _, _, _, hp2 | .when _ _, _, _, _, hp2 | .sc, _, _, _, hp2 | .undef, _, _, _, hp2 => by simp [frz] at hp2
theorem zug {w : World} {g : Gh} {hp hp' : Nat -> Option Blk} {Z1 : Nat -> Prop} (hs : ∀ id, hp' id ≠ none -> hp id ≠ none) (hd : ∀ id blk, hp id = some blk -> holds (cx w g hp) id blk) (hinj : ∀ id id' b o o', hp id ≠ none -> hp id' ≠ none -> g.σ id = some (b, o) -> g.σ id' = some (b, o') -> id = id') (hz : g.zn 1 = some Z1) (ho : ∀ b, ownB g hp b -> Z1 b) : ∀ (l : List D) (vs : List Value), (∀ id ∈ D.idsL l, hp' id = none) -> reps (cx w g hp) l vs -> (frzs hp l).2 = true -> reps (cx w g hp') (frzs hp l).1 vs
 | [], vs, _, h, _ => by simp only [reps, frzs] at h ⊢; exact h
 | d :: ds, vs, hid, h, hp2 => by
  simp only [frzs, za0] at hp2 ⊢
  simp only [reps] at h ⊢
  obtain ⟨v, vs', rfl, h1, h2⟩ := h
  exact ⟨v, vs', rfl, zym hs hd hinj hz ho d v (fun id k => hid id (by simp [D.idsL, k])) h1 hp2.1, zug hs hd hinj hz ho ds vs' (fun id k => hid id (by simp [D.idsL, k])) h2 hp2.2⟩
end
theorem Goes.give {lim n0 : Nat} {st s : St} (t : Nat) (d d' : D) (H : List Nat) (hd : getR st.vars t = d) (hf : frz (getL st.heap) d = (d', true)) (hi : ∀ id ∈ d.ids, getL (zcw H st.heap) id = none) (h : Goes lim n0 ⟨put st.vars t d', zcw H st.heap, st.nx⟩ s) : Goes lim n0 st s := by
 intro E n F a w g hE hF hR
 obtain ⟨F', hF', hR'⟩ := hR.sub hF (st' := ⟨st.vars, zcw H st.heap, st.nx⟩) ⟨fun _ _ h => h, fun t d h => zav H _ t d h, za4 _⟩
 obtain ⟨h1, h2, h3⟩ := hF
 obtain ⟨k1, k2, k3⟩ := hF'
 have hsub : ∀ id, F'.hp id ≠ none -> F.hp id ≠ none := by
  intro id hid
  rw [k2] at hid
  obtain ⟨b, hb⟩ := Option.ne_none_iff_exists'.1 hid
  rw [h2, zav H _ id b hb]; simp
 refine h E n ⟨getR (put st.vars t d'), F'.hp, F'.nu⟩ a w g hE ⟨rfl, k2, k3⟩ ⟨hR'.sz, hR'.df, fun u => ?_, hR'.mem, hR'.base, hR'.keep, hR'.gz, hR'.gs, hR'.nu⟩
 have hg : getR (put st.vars t d') u = if t = u then d' else getR st.vars u := by
  unfold getR
  rw [zgb]
  by_cases hh : t = u <;> simp [hh]
 show rep (cx w g F'.hp) (getR (put st.vars t d') u) _
 rw [hg]
 by_cases htu : t = u
 subst htu
 rw [if_pos rfl]
 have hu := hR.rd t
 rw [h1, hd] at hu
 obtain ⟨Z1, z1, _⟩ := hR.mem.zs.z1
 have hfr : frz F.hp d = (d', true) := by rw [h2]; exact hf
 have := zym (hp' := F'.hp) hsub hR.mem.hd hR.mem.inj z1 (fun b hb => by
  obtain ⟨_, _, Z, e1, e2⟩ := hR.mem.zs.zo b hb
  rw [z1] at e1
  cases e1
  exact e2) d _ (fun id k => by rw [k2]; exact hi id k) hu (by rw [hfr])
 rw [hfr] at this
 exact this
 rw [if_neg htu]
 have hu := hR'.rd u
 rw [k1] at hu
 exact hu
theorem Goes.giveb {lim n0 : Nat} {st s : St} (id : Nat) (cells cells' : List D) (H : List Nat) (hd : getL st.heap id = some (.box cells)) (hk : getL (zcw H st.heap) id = some (.box cells)) (hf : frzs (getL st.heap) cells = (cells', true)) (hi : ∀ i ∈ D.idsL cells, getL (zcw H st.heap) i = none) (h : Goes lim n0 ⟨st.vars, put (zcw H st.heap) id (.box cells'), st.nx⟩ s) : Goes lim n0 st s := by
 intro E n F a w g hE hF hR
 obtain ⟨F', hF', hR'⟩ := hR.sub hF (st' := ⟨st.vars, zcw H st.heap, st.nx⟩) ⟨fun _ _ h => h, fun t d h => zav H _ t d h, za4 _⟩
 obtain ⟨h1, h2, h3⟩ := hF
 obtain ⟨k1, k2, k3⟩ := hF'
 have hsub : ∀ i, F'.hp i ≠ none -> F.hp i ≠ none := by
  intro i hid
  rw [k2] at hid
  obtain ⟨b, hb⟩ := Option.ne_none_iff_exists'.1 hid
  rw [h2, zav H _ i b hb]; simp
 have hid : F'.hp id = some (.box cells) := by rw [k2]; exact hk
 have hp : ∀ i, getL (put (zcw H st.heap) id (.box cells')) i = if id = i then some (.box cells') else F'.hp i := by
  intro i; rw [zgb, k2]
 have hne : ∀ i, getL (put (zcw H st.heap) id (.box cells')) i ≠ none ↔ F'.hp i ≠ none := by
  intro i
  rw [hp]
  by_cases e : id = i
  subst e; simp [hid]
  rw [if_neg e]
 have hown : ownB g (getL (put (zcw H st.heap) id (.box cells'))) = ownB g F'.hp := by
  funext b
  apply propext
  constructor
  rintro ⟨i, o, e1, e2⟩; exact ⟨i, o, (hne i).1 e1, e2⟩
  rintro ⟨i, o, e1, e2⟩; exact ⟨i, o, (hne i).2 e1, e2⟩
 have hcx : cx w g (getL (put (zcw H st.heap) id (.box cells'))) = cx w g F'.hp := by simp only [cx, hown]
 refine h E n ⟨F'.rd, getL (put (zcw H st.heap) id (.box cells')), F'.nu⟩ a w g hE ⟨k1, rfl, k3⟩ ⟨hR'.sz, hR'.df, fun t => by rw [hcx]; exact hR'.rd t, ⟨fun i blk2 hb => ?_, fun i i' b o o' e1 e2 => hR'.mem.inj i i' b o o' ((hne i).1 e1) ((hne i').1 e2), fun i hi => ?_, ?_, hR'.mem.fl⟩, fun i b o e1 => hR'.base i b o ((hne i).1 e1), hR'.keep, hR'.gz, hR'.gs, hR'.nu⟩
 have hb : getL (put (zcw H st.heap) id (.box cells')) i = some blk2 := hb
 rw [hcx]
 rw [hp] at hb
 by_cases e : id = i
 subst e
 rw [if_pos rfl] at hb
 cases hb
 obtain ⟨b, cs, T, e1, e2, e3, e4⟩ := hR.mem.hd id (.box cells) (by rw [h2]; exact hd)
 obtain ⟨Z1, z1, _⟩ := hR.mem.zs.z1
 have hfr : frzs F.hp cells = (cells', true) := by rw [h2]; exact hf
 have := zug (hp' := F'.hp) hsub hR.mem.hd hR.mem.inj z1 (fun b hb => by
  obtain ⟨_, _, Z, e1, e2⟩ := hR.mem.zs.zo b hb
  rw [z1] at e1
  cases e1
  exact e2) cells _ (fun i k => by rw [k2]; exact hi i k) e3 (by rw [hfr])
 rw [hfr] at this
 exact ⟨b, cs, T, e1, e2, this, e4⟩
 rw [if_neg e] at hb
 exact hR'.mem.hd i blk2 hb
 obtain ⟨e1, e2⟩ := hR'.mem.nw i hi
 refine ⟨e1, ?_⟩
 rcases Classical.em (getL (put (zcw H st.heap) id (.box cells')) i = none) with e | e
 exact e
 exact absurd e2 ((hne i).1 e)
 rw [hown]; exact hR'.mem.zs
end Go.Tm
namespace Go.Tm
open Go.RowKit Go.WideShapes
theorem zru {α : Type} (f : α -> D) (hf : ∀ x, (f x).ids = []) : ∀ l : List α, D.idsL (l.map f) = []
 | [] => rfl
 | x :: l => by simp only [zah, D.idsL, hf x, zru f hf l, zag]
section
variable {P : Program} {tab : Nat -> TI} {lim : Nat}
end
def z1 (g : Gh) (b : Nat) : Prop := ∃ Z, g.zn 1 = some Z /\ Z b
def En.at (w : World) (fr : Nat) (g : Gh) (F : FrS) : En := ⟨w, fr, ownB g F.hp, g, F.nu⟩
section
variable {P : Program} {lim n : Nat} {st : St} {Q : Exit -> St -> Prop}
end
section
variable {P : Program} {tab : Nat -> TI}
end
end Go.Tm
namespace Go.Tm
open Go.RowKit Go.WideShapes
mutual
def unfE : D -> D
 | .imm s l c => .imm s l (c % 8)
 | .iptr _ l => .iptr 0 l
 | .agg l => .agg (ya2u l)
 | .tuple l => .tuple (ya2u l)
 | .iface t d => .iface t (unfE d)
 | .fn f l => .fn f (ya2u l)
 | .when c d => .when c (unfE d)
 | d => d
def ya2u : List D -> List D
 | [] => []
 | d :: ds => unfE d :: ya2u ds
end
structure PlE {α : Type} (f g : α -> D) : Prop where
 un : ∀ x, unfE (f x) = g x
 ids : ∀ x, (f x).ids = []
 nw : ∀ x, okM new1 (f x) = true
section
variable {α : Type} {f g : α -> D} (hf : PlE f g)
end
end Go.Tm
namespace Go.Proofs
open Go.Tm
def erD : Option (List UInt8 × Int) -> D
 | none => .nilIface
 | some x => .iface 179 (.agg [.str x.1, .iface 106 (.agg [.int .i64 x.2])])
theorem ya3c : erD none = .nilIface := rfl
theorem ya3b (x : List UInt8 × Int) : erD (some x) = .iface 179 (.agg [.str x.1, .iface 106 (.agg [.int .i64 x.2])]) := rfl
theorem zhi {α : Type} (o : Option α) : o = none \/ ∃ x, o = some x := by cases o with | none => exact .inl rfl | some x => exact .inr ⟨x, rfl⟩
theorem zh7 {P : Program} {K : Nat} {args : List D} {r r' : D} (h : r' = r) (t : zb9 P K args r) : zb9 P K args r' := h ▸ t
theorem zn4 {P : Program} {K : Nat} {args : List D} {H : List (Nat × Blk)} {r r' : D} {eff : List (Nat × Option Blk)} {nw : Nat × Nat} (h : r' = r) (t : zby P K args H r eff nw) : zby P K args H r' eff nw := h ▸ t
structure Tgroup_home where
 Home : THome
 deriving Inhabited, DecidableEq
def Tgroup_home.d (x : Tgroup_home) : D := .agg [.int .i64 x.Home.Skeen.Clock, .imm 7 (x.Home.Skeen.Waits.map TWait.d) 4, .imm 2 (x.Home.Skeen.Done.map TStamp.d) 4, .imm 4 (x.Home.Stream.Topics.map TTopic.d) 4, .imm 1 (x.Home.Stream.Commits.map dL_inti64) 4, .imm 1 (x.Home.Last.map (D.int .i64)) 4]
def Tgroup_home.n (x : Tgroup_home) : D := .agg [.int .i64 x.Home.Skeen.Clock, .imm 7 (x.Home.Skeen.Waits.map TWait.d) 13, .imm 2 (x.Home.Skeen.Done.map TStamp.d) 13, .imm 4 (x.Home.Stream.Topics.map TTopic.d) 13, .imm 1 (x.Home.Stream.Commits.map dL_inti64) 13, .imm 1 (x.Home.Last.map (D.int .i64)) 13]
structure Tcommand_reader where
 fB : List Int
 fOk : Bool
 deriving Inhabited, DecidableEq
def Tcommand_reader.d (x : Tcommand_reader) : D := .agg [.imm 1 (x.fB.map (D.int .u8)) 4, .bool x.fOk]
def Tcommand_reader.n (x : Tcommand_reader) : D := .agg [.imm 1 (x.fB.map (D.int .u8)) 13, .bool x.fOk]
end Go.Proofs
namespace Go.Tm
open Go.RowKit Go.WideShapes
theorem zvt {w : World} {g : Gh} {hp hp' : Nat -> Option Blk} {Z1 : Nat -> Prop} (hs : ∀ id, hp' id ≠ none -> hp id ≠ none) (hd : ∀ id blk, hp id = some blk -> holds (cx w g hp) id blk) (hinj : ∀ id id' b o o', hp id ≠ none -> hp id' ≠ none -> g.σ id = some (b, o) -> g.σ id' = some (b, o') -> id = id') (hz : g.zn 1 = some Z1) (ho : ∀ b, ownB g hp b -> Z1 b) :
  ∀ (l : List D) (b o s : Nat), (∀ id ∈ D.idsL l, hp' id = none) -> (frzs hp l).2 = true -> D.idsL (frzs hp l).1 = [] -> elems (cx w g hp) l b o s -> elems { cx w g hp' with rf := false } (frzs hp l).1 b o s
 | [], b, o, s, _, _, _, _ => by simp only [frzs, elems]
 | d :: ds, b, o, s, hi, h2, hr, he => by
  simp only [frzs, za0] at h2 hr ⊢
  simp only [D.idsL, List.append_eq_nil_iff] at hr
  simp only [elems] at he ⊢
  obtain ⟨⟨v, k1, k2, k3, k4⟩, k5⟩ := he
  refine ⟨⟨v, ?_, k2, k3, k4⟩, zvt hs hd hinj hz ho ds b (o + s) s (fun id hx => hi id (by simp [D.idsL, hx])) h2.2 hr.2 k5⟩
  exact zm4 _ _ hr.1 (zym hs hd hinj hz ho d v (fun id hx => hi id (by simp [D.idsL, hx])) k1 h2.1)
theorem zys (hp : Nat -> Option Blk) : ∀ l : List D, (frzs hp l).1.length = l.length
 | [] => rfl
 | d :: ds => by simp only [frzs, za5, zys hp ds]
theorem zyt {hp : Nat -> Option Blk} : ∀ {a a' b b' : List D}, frzs hp a = (a', true) -> frzs hp b = (b', true) -> frzs hp (a ++ b) = (a' ++ b', true)
 | [], a', b, b', h1, h2 => by
  simp only [frzs, za6, and_true] at h1
  subst h1; exact h2
 | d :: ds, a', b, b', h1, h2 => by
  simp only [frzs, za6, za0] at h1
  obtain ⟨rfl, k1, k2⟩ := h1
  have := zyt (a' := (frzs hp ds).1) (by rw [<- k2]) h2
  simp only [zal, frzs, this, k1, Bool.and_self]
theorem zyr {hp : Nat -> Option Blk} {α : Type} {f : α -> D} (hf : ∀ x, frz hp (f x) = (f x, true)) : ∀ l : List α, frzs hp (l.map f) = (l.map f, true)
 | [] => rfl
 | x :: l => by simp only [zah, frzs, hf x, zyr hf l, Bool.and_self]
theorem Goes.givl {lim n0 : Nat} {st s : St} (id : Nat) {e sz : Nat} {p : Bool} (items items' : List D) (H : List Nat) (hd : getL st.heap id = some (.arr e sz p items)) (hk : getL (zcw H st.heap) id = some (.arr e sz p items)) (hf : frzs (getL st.heap) items = (items', true)) (hr : D.idsL items' = []) (hi : ∀ i ∈ D.idsL items, getL (zcw H st.heap) i = none) (h : Goes lim n0 ⟨st.vars, put (zcw H st.heap) id (.arr e sz true items'), st.nx⟩ s) : Goes lim n0 st s := by
 intro E n F a w g hE hF hR
 obtain ⟨F', hF', hR'⟩ := hR.sub hF (st' := ⟨st.vars, zcw H st.heap, st.nx⟩) ⟨fun _ _ h => h, fun t d h => zav H _ t d h, za4 _⟩
 obtain ⟨h1, h2, h3⟩ := hF
 obtain ⟨k1, k2, k3⟩ := hF'
 have hsub : ∀ i, F'.hp i ≠ none -> F.hp i ≠ none := by
  intro i hid
  rw [k2] at hid
  obtain ⟨b, hb⟩ := Option.ne_none_iff_exists'.1 hid
  rw [h2, zav H _ i b hb]; simp
 have hid : F'.hp id = some (.arr e sz p items) := by rw [k2]; exact hk
 have hp : ∀ i, getL (put (zcw H st.heap) id (.arr e sz true items')) i = if id = i then some (.arr e sz true items') else F'.hp i := by
  intro i; rw [zgb, k2]
 have hne : ∀ i, getL (put (zcw H st.heap) id (.arr e sz true items')) i ≠ none ↔ F'.hp i ≠ none := by
  intro i
  rw [hp]
  by_cases e : id = i
  subst e; simp [hid]
  rw [if_neg e]
 have hown : ownB g (getL (put (zcw H st.heap) id (.arr e sz true items'))) = ownB g F'.hp := by
  funext b
  apply propext
  constructor
  rintro ⟨i, o, e1, e2⟩; exact ⟨i, o, (hne i).1 e1, e2⟩
  rintro ⟨i, o, e1, e2⟩; exact ⟨i, o, (hne i).2 e1, e2⟩
 have hcx : cx w g (getL (put (zcw H st.heap) id (.arr e sz true items'))) = cx w g F'.hp := by simp only [cx, hown]
 refine h E n ⟨F'.rd, getL (put (zcw H st.heap) id (.arr e sz true items')), F'.nu⟩ a w g hE ⟨k1, rfl, k3⟩ ⟨hR'.sz, hR'.df, fun t => by rw [hcx]; exact hR'.rd t, ⟨fun i blk2 hb => ?_, fun i i' b o o' e1 e2 => hR'.mem.inj i i' b o o' ((hne i).1 e1) ((hne i').1 e2), fun i hi => ?_, ?_, hR'.mem.fl⟩, fun i b o e1 => hR'.base i b o ((hne i).1 e1), hR'.keep, hR'.gz, hR'.gs, hR'.nu⟩
 have hb : getL (put (zcw H st.heap) id (.arr e sz true items')) i = some blk2 := hb
 rw [hcx]
 rw [hp] at hb
 by_cases ei : id = i
 subst ei
 rw [if_pos rfl] at hb
 cases hb
 have hf : frzs F.hp items = (items', true) := by rw [h2]; exact hf
 have hlen : items'.length = items.length := by have := zys F.hp items; rw [hf] at this; exact this
 rcases hR.mem.hd id (.arr e sz p items) (by rw [h2]; exact hd) with ⟨e1, e2⟩ | ⟨b, cs, e1, e2, e3, e4⟩
 exact .inl ⟨List.length_eq_zero_iff.1 (by rw [hlen, e1]; rfl), e2⟩
 refine .inr ⟨b, cs, e1, e2, by rw [hlen]; exact e3, ?_⟩
 have e4 : elems (cx w g F.hp) items b 0 sz := by
  refine zfe (C := { cx w g F.hp with rf := !p }) (C' := cx w g F.hp) ?_ _ _ _ _ rfl e4
  exact ⟨(Cx.Le.refl (cx w g F.hp)).blk, fun _ _ => rfl, fun x => x, fun _ => rfl, fun _ _ _ => rfl⟩
 obtain ⟨Z1, z1, _⟩ := hR.mem.zs.z1
 have := zvt (hp' := F'.hp) hsub hR.mem.hd hR.mem.inj z1 (fun b hb => by
  obtain ⟨_, _, Z, e1, e2⟩ := hR.mem.zs.zo b hb
  rw [z1] at e1
  cases e1
  exact e2) items b 0 sz (fun i hx => by rw [k2]; exact hi i hx) (by rw [hf]) (by rw [hf]; exact hr) e4
 rw [hf] at this
 exact this
 rw [if_neg ei] at hb
 exact hR'.mem.hd i blk2 hb
 obtain ⟨e1, e2⟩ := hR'.mem.nw i hi
 refine ⟨e1, ?_⟩
 rcases Classical.em (getL (put (zcw H st.heap) id (.arr e sz true items')) i = none) with e | e
 exact e
 exact absurd e2 ((hne i).1 e)
 rw [hown]; exact hR'.mem.zs
end Go.Tm
namespace Go.Tm
theorem zyd {α : Type} [Inhabited α] (f : α -> D) (l : List α) (i : Nat) (j : Int) (hj : j.toNat = i) (h : i < l.length) : nth (l.map f) j.toNat = f (l.getD i default) := by rw [hj]; exact zex f l i h
end Go.Tm
namespace Go.Tm
open Go.RowKit Go.WideShapes
section
variable {P : Program} {tab : Nat -> TI} {lim n : Nat}
theorem WRun.mcall {ops : Array Oper} {o : Oper} {l : List Oper} {st : St} {acc : List FP} {Q : St -> List FP -> Prop} {c : Call} {f : Operand} {K : FuncId} {pre ds : List D} {H : List (Nat × Blk)} {r : D} {eff : List (Nat × Option Blk)} {nw : Nat × Nat}
  (ho : o.op = .call c) (hc : c.callee = .value f) (hg : o.guard = none) (hf : opd true (getR st.vars) f = (.fn (.yield K) pre, true)) (hds : opds true (getR st.vars) c.args.toList = (ds, true))
  (hK : zby P K (pre ++ ds) H r eff nw) (hH : ∀ id b, getL H id = some b -> getL st.heap id = some b) (hE : ∀ x ∈ eff, x.1 ∈ H.map (·.1) \/ nw.1 <= x.1 /\ x.1 < nw.2) (hn : nw.1 = nw.2 \/ st.nx <= nw.1 /\ nw.2 <= lim)
  (hQ : WRun P tab true lim ops l (st.app o.dst { d := r, vc := true, eff := eff, nw := nw, met := H.map (·.1) }) (acc ++ [fpOf o (st.fs lim) { d := r, vc := true, eff := eff, nw := nw, met := H.map (·.1) }]) Q) : WRun P tab true lim ops (o :: l) st acc Q := by
 obtain ⟨os, st', hch, hq⟩ := hQ
 have hnn : ∀ id, nw.1 <= id -> id < nw.2 -> st.nx <= id /\ id < lim := by
  intro id h1 h2
  rcases hn with h | ⟨h3, h4⟩ <;> omega
 refine ⟨_, st', .cons (out := { d := r, vc := true, eff := eff, nw := nw, met := H.map (·.1) }) ?_ (fun id h1 h2 => (hnn id h1 h2).1) hch, by simpa using hq⟩
 unfold zk5
 simp only [hg]
 unfold Core
 simp only [ho, hc]
 refine .inr ⟨K, pre, ds, r, H, eff, nw, hf, hds, hK, hH, fun id h1 h2 => ?_, hE, rfl⟩
 have := hnn id h1 h2
 simp only [St.fs, za0, decide_eq_true_eq]
 exact this
end
end Go.Tm
namespace Go.Tm
theorem WkG.newR (s : Nat) (l : List D) {c : Nat} (hc : c / 8 = 1) : WkG (.imm s l c) (.imm s l 12) := by
 intro fr w g hp nu hM v h
 simp only [rep, hc] at h ⊢
 obtain ⟨a, cap, rfl, h1, h2, _, _, _, h6, hfl, h7⟩ := h
 refine ⟨a, cap, rfl, h1, h2, by simp, by simp, by simp, h6, fun _ => hfl (by omega), h7.imp id fun h Z hz => ?_⟩
 obtain ⟨a0, k1, k2, k3, k4, k5, k6⟩ := h Z hz
 exact ⟨a0, k1, k2, k3, k4, k5.any (by decide), k6⟩
end Go.Tm
namespace Go.Proofs
open Go.Tm
def TMessage.m (x : TMessage) : D := .agg [.int .i64 x.Id, .imm 1 (x.Groups.map (D.int .i64)) 12, .int .i64 x.Topic, .str x.Key, .str x.Body]
theorem zvg : PlN TMessage.m TMessage.d := ⟨fun _ => rfl, fun _ => rfl, fun _ => by first | rfl | simp [TMessage.m, okM, okML, low3], fun _ => by first | rfl | simp [TMessage.m, okM, okML, new1]⟩
theorem zvm (l : List TMessage) : mkML 1 (l.map TMessage.d) = l.map TMessage.m := zlc 1 (fun _ => rfl) l
structure Torder_step where
 fC : TCommand
 fBefore : TSkeen
 fAfter : TSkeen
 fOut : List TMessage
 deriving Inhabited, DecidableEq
def Torder_step.d (x : Torder_step) : D := .agg [.int .u8 x.fC.Kind, .int .i64 x.fC.Message.Id, .imm 1 (x.fC.Message.Groups.map (D.int .i64)) 4, .int .i64 x.fC.Message.Topic, .str x.fC.Message.Key, .str x.fC.Message.Body, .int .i64 x.fC.Id, .int .i64 x.fC.Time, .imm 1 (x.fC.Members.map (D.int .i64)) 4, .int .i64 x.fC.Topic, .int .i64 x.fC.Who, .int .i64 x.fC.N, .int .i64 x.fBefore.Clock, .imm 7 (x.fBefore.Waits.map TWait.d) 4, .imm 2 (x.fBefore.Done.map TStamp.d) 4, .int .i64 x.fAfter.Clock, .imm 7 (x.fAfter.Waits.map TWait.d) 4, .imm 2 (x.fAfter.Done.map TStamp.d) 4, .imm 5 (x.fOut.map TMessage.d) 4]
def Torder_step.n (x : Torder_step) : D := .agg [.int .u8 x.fC.Kind, .int .i64 x.fC.Message.Id, .imm 1 (x.fC.Message.Groups.map (D.int .i64)) 13, .int .i64 x.fC.Message.Topic, .str x.fC.Message.Key, .str x.fC.Message.Body, .int .i64 x.fC.Id, .int .i64 x.fC.Time, .imm 1 (x.fC.Members.map (D.int .i64)) 13, .int .i64 x.fC.Topic, .int .i64 x.fC.Who, .int .i64 x.fC.N, .int .i64 x.fBefore.Clock, .imm 7 (x.fBefore.Waits.map TWait.d) 13, .imm 2 (x.fBefore.Done.map TStamp.d) 13, .int .i64 x.fAfter.Clock, .imm 7 (x.fAfter.Waits.map TWait.d) 13, .imm 2 (x.fAfter.Done.map TStamp.d) 13, .imm 5 (x.fOut.map TMessage.d) 13]
end Go.Proofs
namespace Go.Proofs
open Go.Tm Go.RowKit Go.WideShapes
attribute [go_sem] zfn runE runK zj1 zt2 aop opd zoc opds opdO ev zvi keep List.any natbeq Bool.false_or Bool.true_or zg3 cond_true cond_false Bool.cond_false_right Bool.cond_true_left beq_true beq_false imp_self implies_true getR getL put St.app effL del nwB zxl Nat.lt_irrefl Nat.lt_add_one zxm za4 Nat.beq_refl zk7 zhw capS capK zuc zri zdp D.ids D.idsL bin ya04 zr2 binT zw4 Tm.part zo2 zs6 oneD zro zo1 srcD zgc zoj decide_true gval zq6 D.cells zah List.map_nil List.take List.drop List.length_map List.append Int.toNat_natCast and_true true_and decide_false za5 zac zag zai Bool.and_true Bool.true_and Bool.not_false Bool.not_true ne_eq not_false_eq_true BEq.rfl List.getElem?_cons_zero List.getElem?_cons_succ List.getElem?_nil Nat.zero_add List.all_cons List.all_nil List.isEmpty_cons List.isEmpty_nil Option.getD_some Option.getD_none List.any_cons List.any_nil List.drop_succ_cons List.drop_zero unfL unf okM okML low3 zal true_or or_true Nat.zero_mul Nat.zero_le ya21 ya20 ya3o ya3n ya1x Option.isSome_map keyD List.length_replicate List.map_replicate zzi List.length_set ya03 ya7u ya7r ya59 ya3a mkM mkML ya5b ya5a ya3d zup zqk zv4 List.take_length Int.toNat_zero zzf fpOf zlq zod mvV mvH mvF zcw D.ren D.renL Blk.ren List.map_append zae Bool.not_not Bool.or_not_self Bool.not_or_self Bool.or_true
attribute [go_sem] Tryz.tm_3 Tryz.tm_4 Tryz.tm_5 Tryz.tm_9 Tryz.tm_22 Tryz.tm_23 Tryz.tm_25 Tryz.tm_26 Tryz.tm_27 Tryz.tm_29 Tryz.tm_30 Tryz.tm_32 Tryz.tm_34 Tryz.tm_36 Tryz.tm_40 Tryz.tm_55 Tryz.tm_60 Tryz.tm_63 Tryz.tm_66 Tryz.tm_68 Tryz.tm_76 Tryz.tm_83 Tryz.tm_91 Tryz.tm_92 Tryz.tm_94 Tryz.tm_96 Tryz.tm_101 Tryz.tm_106 Tryz.tm_116 Tryz.tm_144 Tryz.tm_148 Tryz.tm_174 Tryz.tm_176 Tryz.tm_179 Tryz.tm_209 Tryz.tm_220 Tryz.tm_293 TMessage.d TMessage.n TWait.d TWait.n TStamp.d TSkeen.d TSkeen.n TCommand.d TCommand.n Tskeen_clock.d Tskeen_clock.n zzq TEntry.d TTopic.d TTopic.n dL_inti64 zbw TStream.d TStream.n THome.d THome.n TTook.d zzr ya1j ya3c ya3b Tgroup_home.d Tgroup_home.n Tcommand_reader.d Tcommand_reader.n Torder_step.d Torder_step.n TMessage.m zvm Tryz.f201 Tryz.f133 Tryz.f183 Tryz.f165 Tryz.f172 Tryz.f134 Tryz.f78 Tryz.f49 Tryz.f40 Tryz.f155 Tryz.f90 Tryz.f207 Tryz.f145 Tryz.f146 Tryz.f92 Tryz.f105 Tryz.f121 Tryz.f93 Tryz.f175 Tryz.f144 Tryz.f143 Tryz.f102 Tryz.f103 Tryz.f94 Tryz.f198 Tryz.f197 Tryz.f181 Tryz.f210 Tryz.f199 Tryz.f200 Tryz.f182 Tryz.f84 Tryz.f83 Tryz.f158 Tryz.f157 Tryz.f38 Tryz.f50 Tryz.f104 Tryz.f47 Tryz.f127 Tryz.f126 Tryz.f77 Tryz.f76 Tryz.f75 Tryz.f73 Tryz.f74 Tryz.f129 Tryz.f87 Tryz.f65 Tryz.f31 Tryz.f41 Tryz.f171 Tryz.f128 Tryz.f130 Tryz.f173 Tryz.f174 Tryz.f71 Tryz.f29 Tryz.f91 Tryz.f120 Tryz.f69 Tryz.f95 Tryz.f159 Tryz.f44 Tryz.f113 Tryz.f36 Tryz.f110 Tryz.f147 Tryz.f97 Tryz.f141 Tryz.f86 Tryz.f186 Tryz.f152 Tryz.f107 Tryz.f193 Tryz.f194 Tryz.f178 Tryz.f196 Tryz.f101 Tryz.f46 Tryz.f100 Tryz.f176 Tryz.f150 Tryz.f149 Tryz.f151 Tryz.f99 Tryz.f208 Tryz.f85 Tryz.f154 Tryz.f153 Tryz.f108 Tryz.f148 Tryz.f98 Tryz.f96 Tryz.f45 Tryz.f62 Tryz.f39 Tryz.f180 Tryz.f160 Tryz.f106 Tryz.f48 Tryz.f177 Tryz.f156 Tryz.f43 Tryz.f16 Tryz.f13 Tryz.f18 Tryz.f68 Tryz.f54 Tryz.f112 Tryz.f114 Tryz.f55 Tryz.f33 Tryz.f11 Tryz.f109 Tryz.f51 Tryz.f19 Tryz.f53 Tryz.f22 Tryz.f63 Tryz.f64 Tryz.f30 Tryz.f8 Tryz.f9 Tryz.f188 Tryz.f191 Tryz.f190 Tryz.f189 Tryz.f162 Tryz.f164 Tryz.f163 Tryz.f119 Tryz.f59 Tryz.f26 Tryz.f23 Tryz.f15 Tryz.f24 Tryz.f61 Tryz.f60 Tryz.f27 Tryz.f28 Tryz.f7
theorem _root_.Go.Tm.Ok.sr {lim n id : Nat} {ops : Array Oper} {draw : Bool} {c : Code} {st : St} {Q : Exit -> St -> Prop} (V : List Nat) (h : RegA Tryz.prog Tryz.tm true lim ops draw ⟨keep V st.vars, st.heap, st.nx⟩ (seqQ Tryz.prog lim n c Q .normal)) (hok : zj0 n ops draw = true := by decide +kernel) : Ok Tryz.prog lim n (.seq (.region id ops draw) c) st Q := .seq (.rg zS V h hok)
theorem zbt {K : FuncId} {fn : Func} {c : Code} {args : List D} {r : D} (lim : Nat) (hf : Tryz.prog.funcs[K]? = some fn)
  (h : wfL args -> Ok Tryz.prog lim fn.ntmps c ⟨zfn 0 args, [], 0⟩ fun e st => (e = .normal \/ e = .ret) /\ ∃ ds, resL Tryz.tm st fn.results.toList = some (ds, true) /\ resT ds = r)
  (hb : fn.body = some c := by exact rfl) (hname : fn.name ≠ "runtime.NumGoroutine" := by decide) (hr : r.ids = [] := by exact rfl) (hk : okM new1 r = true := by exact rfl) (hlen : args.length <= fn.ntmps := by exact lb rfl) : zb9 Tryz.prog K args r :=
 znr Tryz.tmOk lim hf hb hname hr hk hlen h
theorem zcu {K : FuncId} {fn : Func} {c : Code} {args : List D} {H : List (Nat × Blk)} {r : D} {eff : List (Nat × Option Blk)} {nw : Nat × Nat} (hf : Tryz.prog.funcs[K]? = some fn)
  (h : wfL args -> Ok Tryz.prog nw.2 fn.ntmps c ⟨zfn 0 args, H, nw.1⟩ fun e st => (e = .normal \/ e = .ret) /\ ∃ ds, resL Tryz.tm st fn.results.toList = some (ds, true) /\ resT ds = r /\ ∃ h2 : List (Nat × Blk), (∀ i x, getL h2 i = some x -> getL st.heap i = some x) /\ getL h2 = effH (getL H) eff)
  (hb : fn.body = some c := by exact rfl) (hname : fn.name ≠ "runtime.NumGoroutine" := by decide) (hlen : args.length <= fn.ntmps := by exact lb rfl) (hE : ∀ x ∈ eff, x.1 ∈ H.map (·.1) \/ nw.1 <= x.1 /\ x.1 < nw.2 := by simp) : zby Tryz.prog K args H r eff nw :=
 ziy Tryz.tmOk hf hb hname hlen hE h
theorem _root_.Go.Tm.Ok.sp {lim n id : Nat} {ops : Array Oper} {c : Code} {st st' : St} {vc : Bool} {acc : List FP} {Q : Exit -> St -> Prop} (V : List Nat) (hQ : seqQ Tryz.prog lim n c Q .normal st') (hok : zj0 n ops false = true := by decide +kernel)
  (h : zjf (runE Tryz.tm true false ops.toList ops.toList ⟨keep V st.vars, st.heap, st.nx⟩ true []) st' vc acc [] := by intro q hq; simp only [go_sem, Nat.reduceSub, Int.reduceEq, Nat.reduceLT, Nat.reduceDiv, Nat.reduceAdd, Nat.reduceBEq, Nat.reduceLeDiff, reduceCtorEq, Nat.reduceEqDiff, Nat.reduceMod, Nat.reduceMul, zbv]; exact hq)
  (hv : vc = true := by first | rfl | (simp only [go_sem, Nat.reduceLeDiff]; done) | (simp only [go_sem, Nat.reduceLeDiff]; rfl) | (simp; done) | (simp [oneD] <;> omega) | (simp_all; done) | (simp_all [oneD] <;> omega)) (hlim : st'.nx <= lim := by first | exact za4 _ | exact lb rfl | (dsimp only; omega) | (simp <;> omega)) : Ok Tryz.prog lim n (.seq (.region id ops false) c) st Q :=
 .seq (.plain Tryz.tmOk Tryz.tmMixed V hok h hv hlim hQ)
end Go.Proofs
namespace Go.Proofs
open Go.Tm
set_option linter.unusedVariables false
def zbk (v : Int) : List Int -> Nat -> Option (Int ⊕ Unit)
 | [], n1 =>
  some (.inr ())
 | y1 :: rest1, n1 =>
  if v = y1 then
  some (.inl (n1 : Int))
  else
  zbk v rest1 (n1 + 1) 
def zeq (s : List Int) (v : Int) : Option Int :=
 Option.bind (α := Int ⊕ Unit) (zbk v s 0 ) fun z => match z with
 | (.inl r) => some r
 | (.inr _) =>
 some (-1)
def zda (a0 : List Int) (a1 : Int) : Option Bool :=
 Option.bind (zeq a0 a1) fun v1 =>
 some (decide (v1 >= 0))
def zch : List Int -> Int -> Option (Int ⊕ Int)
 | [], n2 =>
  some (.inr n2)
 | y1 :: rest1, n2 =>
  if (y1 <= n2) \/ (y1 >= 6) then
  some (.inl 60)
  else
  zch rest1 (y1)
def zgz (a0 : List Int) : Option Int :=
 if (a0.length : Int) > 6 then
 some 4
 else
 Option.bind (α := Int ⊕ Int) (zch a0 (-1)) fun z => match z with
 | (.inl r) => some r
 | (.inr n1) =>
 if n1 < 0 then
 some 60
 else
 some 0
end Go.Proofs
namespace Go.Proofs
open Go.Tm Go.RowKit Go.WideShapes
set_option maxRecDepth 100000
set_option maxHeartbeats 4000000
set_option linter.unusedSimpArgs false
set_option linter.unusedVariables false
@[go_sem] def ya6x : St := ⟨[], [], 0⟩
@[go_sem] def ya6w (s : List Int) (v : Int) (n1 : Nat) : St := ⟨[(0, .imm 1 (s.map (D.int .i64)) 4), (1, .int .i64 v), (7, .int .i64 (s.length : Int)), (8, .int .i64 (n1 : Int))], [], 0⟩
theorem zk4 (s : List Int) (v : Int) (r : Int) (h : zeq s v = some r) : zb9 Tryz.prog 201 [.imm 1 (s.map (D.int .i64)) 4, .int .i64 v] (.int .i64 r) := by
 refine zbt 2 Tryz.func201 ?_
 intro hwf
 unfold zeq at h
 refine .sp [0, 1] ?_
 obtain ⟨x1, hx1, h⟩ := za2 h
 refine .seqM 0 (fun (j : Unit) => ya6x) (fun j => x1 = (.inr j)) (lb rfl) ?_ ?_
 refine .sp [0, 1] ?_
 refine .block ?_
 refine .loopG 0 (fun (j : Nat) => ya6w s v j) (fun j => j <= s.length /\ zbk v (s.drop j) j  = some x1) (fun j => s.length - j) (0) (lb rfl) ?_ ⟨Nat.zero_le _, hx1⟩ ?_
 exact .m [0, 1, 7, 8] [] []
 rintro n1 ⟨hi1, hx1⟩
 simp only [ya6w]
 refine .wf 7 (.int .i64 (s.length : Int)) rfl ?_
 intro hln1
 replace hln1 := wfn hln1
 refine .sp [0, 1, 7, 8] ?_
 refine .seq (.cd (fun hc1 => ?_) (fun hc1 => ?_))
 have h1 : n1 < s.length := by simpa using hc1
 have hwn1 := zdw h1 hln1
 have hpn1 := zdx h1 hln1
 rw [za7 h1, zbk] at hx1
 refine .skip (.seq (.block (.seq (.plx zS hwn1 [0, 1, 7, 8] ?_))))
 refine .seq ?_
 have e1 := zdk (D.int .i64) s n1 h1
 refine .plx zS (ai e1 hwn1) [0, 1, 5, 7, 8] ?_
 refine .cd ?_ ?_ <;> intro hc2
 replace hx1 := zaf hx1 hc2
 refine .seq (.plx zS hwn1 [5] ?_)
 have hq := sj hx1
 subst x1
 try dsimp only at h
 obtain rfl := sj h
 exact .rr
 replace hx1 := zao hx1 hc2
 refine .skip (.plx zS hwn1 [0, 1, 7, 8] ?_)
 refine ⟨n1 + 1, ?_, ⟨by omega, hx1⟩, by dsimp only; omega⟩
 exact .m [0, 1, 7, 8] [] []
 have h2 : n1 = s.length := by have h2b := of_decide_eq_false hc1; omega
 rw [zab (by omega), zbk] at hx1
 refine .exit ?_
 refine ⟨_, ?_, (sj hx1).symm⟩
 exact .m [] [] []
 rintro ⟨⟩ hj1
 subst x1
 try dsimp only at h
 simp only [ya6x]
 refine .sp [] ?_
 obtain rfl := sj h
 exact .rr
theorem zj3 (a0 : List Int) (a1 : Int) (r : Bool) (h : zda a0 a1 = some r) : zb9 Tryz.prog 183 [.imm 1 (a0.map (D.int .i64)) 4, .int .i64 a1] (.bool r) := by
 refine zbt 2 Tryz.func183 ?_
 intro hwf
 unfold zda at h
 refine .sp [0, 1] ?_
 obtain ⟨v1, hv1, h⟩ := za2 h
 refine .sr [0, 1] ?_
 refine .rn 2 ?_
 refine .cl (zk4 a0 a1 v1 hv1) ?_
 refine .rn 2 ?_
 refine .nn ?_
 obtain rfl := sj h
 exact .rr
@[go_sem] def st77 (n1 : Int) : St := ⟨[(3, .int .i64 n1)], [], 0⟩
@[go_sem] def st78 (a0 : List Int) (n3 : Nat) (n2 : Int) : St := ⟨[(3, .int .i64 n2), (9, .imm 1 (a0.map (D.int .i64)) 4), (10, .int .i64 (a0.length : Int)), (11, .int .i64 (n3 : Int))], [], 0⟩
theorem zos (a0 : List Int) (r : Int) (h : zgz a0 = some r) : zb9 Tryz.prog 165 [.imm 1 (a0.map (D.int .i64)) 4] (.int .i64 r) := by
 refine zbt 2 Tryz.func165 ?_
 intro hwf
 unfold zgz at h
 refine .sp [0] ?_
 refine .seq (.seq (.pl zS [0] ?_))
 refine .cd ?_ ?_ <;> intro hc1
 replace h := zaf h hc1
 refine .sp [] ?_
 obtain rfl := sj h
 exact .rr
 replace h := zao h hc1
 refine .skip (.seq (.pl zS [0] ?_))
 obtain ⟨x1, hx1, h⟩ := za2 h
 refine .seqM 0 (fun (j : Int) => st77 j) (fun j => x1 = (.inr j)) (lb rfl) ?_ ?_
 refine .sp [0, 3] ?_
 refine .block ?_
 refine .loopG 0 (fun (j : Nat × Int) => st78 a0 j.1 j.2) (fun j => j.1 <= a0.length /\ zch (a0.drop j.1) j.2 = some x1) (fun j => a0.length - j.1) (0, (-1)) (lb rfl) ?_ ⟨Nat.zero_le _, hx1⟩ ?_
 exact .m [3, 9, 10, 11] [] []
 rintro ⟨n3, n2⟩ ⟨hi1, hx1⟩
 simp only [st78]
 simp only at hi1 hx1
 refine .wf 10 (.int .i64 (a0.length : Int)) rfl ?_
 intro hln3
 replace hln3 := wfn hln3
 refine .sp [3, 9, 10, 11] ?_
 refine .seq (.cd (fun hc2 => ?_) (fun hc2 => ?_))
 have h1 : n3 < a0.length := by simpa using hc2
 have hwn3 := zdw h1 hln3
 have hpn3 := zdx h1 hln3
 rw [za7 h1, zch] at hx1
 refine .skip (.seq (.block (.seq ?_)))
 have e1 := zdk (D.int .i64) a0 n3 h1
 refine .plx zS (ai e1 hwn3) [3, 9, 10, 11] ?_
 refine .seq (.seq (.plx zS hwn3 [3, 5, 9, 10, 11] ?_))
 refine .cd ?_ ?_ <;> intro hc3
 replace hx1 := zaf hx1 hc3
 refine .seq (.plx zS hwn3 [] ?_)
 have hq := sj hx1
 subst x1
 try dsimp only at h
 obtain rfl := sj h
 exact .rr
 replace hx1 := zao hx1 hc3
 refine .skip (.plx zS hwn3 [5, 9, 10, 11] ?_)
 refine .plx zS hwn3 [3, 9, 10, 11] ?_
 refine ⟨(n3 + 1, _), ?_, ⟨by omega, hx1⟩, by dsimp only; omega⟩
 exact .m [3, 9, 10, 11] [] []
 have h2 : n3 = a0.length := by have h2b := of_decide_eq_false hc2; omega
 rw [zab (by omega), zch] at hx1
 refine .exit ?_
 refine ⟨_, ?_, (sj hx1).symm⟩
 exact .m [3] [] []
 rintro n1 hj1
 subst x1
 try dsimp only at h
 simp only [st77]
 refine .seq (.seq (.pl zS [3] ?_))
 refine .cd ?_ ?_ <;> intro hc4
 replace h := zaf h hc4
 refine .sp [] ?_
 obtain rfl := sj h
 exact .rr
 replace h := zao h hc4
 refine .skip (.seq (.pl zS [] ?_))
 obtain rfl := sj h
 exact .rr
end Go.Proofs
namespace Go.Proofs
open Go.Tm
set_option linter.unusedVariables false
def zbl (a1 : List Int) : List Int -> Nat -> Option (Bool ⊕ Unit)
 | [], n1 =>
  some (.inr ())
 | y1 :: rest1, n1 =>
  if n1 < a1.length then
  if ¬ (y1 = (a1.getD n1 default)) then
  some (.inl false)
  else
  zbl a1 rest1 (n1 + 1) 
  else none
def zc7 (a0 : List Int) (a1 : List Int) : Option Bool :=
 if ¬ ((a0.length : Int) = (a1.length : Int)) then
 some false
 else
 Option.bind (α := Bool ⊕ Unit) (zbl a1 a0 0 ) fun z => match z with
 | (.inl r) => some r
 | (.inr _) =>
 some true
end Go.Proofs
namespace Go.Proofs
open Go.Tm Go.RowKit Go.WideShapes
set_option maxRecDepth 100000
set_option maxHeartbeats 4000000
set_option linter.unusedSimpArgs false
set_option linter.unusedVariables false
@[go_sem] def ya79 : St := ⟨[], [], 0⟩
@[go_sem] def ya78 (a0 : List Int) (a1 : List Int) (n1 : Nat) : St := ⟨[(0, .imm 1 (a0.map (D.int .i64)) 4), (1, .imm 1 (a1.map (D.int .i64)) 4), (12, .int .i64 (a0.length : Int)), (13, .int .i64 (n1 : Int))], [], 0⟩
theorem ze1 (a0 : List Int) (a1 : List Int) (r : Bool) (h : zc7 a0 a1 = some r) : zb9 Tryz.prog 49 [.imm 1 (a0.map (D.int .i64)) 4, .imm 1 (a1.map (D.int .i64)) 4] (.bool r) := by
 refine zbt 2 Tryz.func49 ?_
 intro hwf
 unfold zc7 at h
 refine .sp [0, 1] ?_
 refine .seq (.seq (.pl zS [0, 1] ?_))
 refine .cd ?_ ?_ <;> intro hc1
 replace h := zaf h hc1
 refine .sp [] ?_
 obtain rfl := sj h
 exact .rr
 replace h := zao h hc1
 obtain ⟨x1, hx1, h⟩ := za2 h
 refine .skip ?_
 refine .seqM 0 (fun (j : Unit) => ya79) (fun j => x1 = (.inr j)) (lb rfl) ?_ ?_
 refine .sp [0, 1] ?_
 refine .block ?_
 refine .loopG 0 (fun (j : Nat) => ya78 a0 a1 j) (fun j => j <= a0.length /\ zbl a1 (a0.drop j) j  = some x1) (fun j => a0.length - j) (0) (lb rfl) ?_ ⟨Nat.zero_le _, hx1⟩ ?_
 exact .m [0, 1, 12, 13] [] []
 rintro n1 ⟨hi1, hx1⟩
 simp only [ya78]
 refine .wf 12 (.int .i64 (a0.length : Int)) rfl ?_
 intro hln1
 replace hln1 := wfn hln1
 refine .sp [0, 1, 12, 13] ?_
 refine .seq (.cd (fun hc2 => ?_) (fun hc2 => ?_))
 have h1 : n1 < a0.length := by simpa using hc2
 have hwn1 := zdw h1 hln1
 have hpn1 := zdx h1 hln1
 rw [za7 h1, zbl] at hx1
 refine .skip (.seq (.block (.seq (.plx zS hwn1 [0, 1, 12, 13] ?_))))
 refine .seq ?_
 obtain ⟨k1, hx1⟩ := zb0 hx1
 have e1 := zdk (D.int .i64) a0 n1 h1
 have e2 := zex (D.int .i64) a1 n1
 replace e2 := e2 k1
 refine .rg zS [0, 1, 5, 12, 13] ?_
 refine .rdx 6 (ai e1 (ai e2 hwn1)) ?_
 refine .rdx 3 (ai e1 (ai e2 hwn1)) ?_
 refine .nd ?_
 refine .cd ?_ ?_ <;> intro hc3
 replace hx1 := zaf hx1 hc3
 refine .seq (.plx zS hwn1 [] ?_)
 have hq := sj hx1
 subst x1
 try dsimp only at h
 obtain rfl := sj h
 exact .rr
 replace hx1 := zao hx1 hc3
 refine .skip (.plx zS hwn1 [0, 1, 12, 13] ?_)
 refine ⟨n1 + 1, ?_, ⟨by omega, hx1⟩, by dsimp only; omega⟩
 exact .m [0, 1, 12, 13] [] []
 have h2 : n1 = a0.length := by have h2b := of_decide_eq_false hc2; omega
 rw [zab (by omega), zbl] at hx1
 refine .exit ?_
 refine ⟨_, ?_, (sj hx1).symm⟩
 exact .m [] [] []
 rintro ⟨⟩ hj1
 subst x1
 try dsimp only at h
 simp only [ya79]
 refine .sp [] ?_
 obtain rfl := sj h
 exact .rr
end Go.Proofs

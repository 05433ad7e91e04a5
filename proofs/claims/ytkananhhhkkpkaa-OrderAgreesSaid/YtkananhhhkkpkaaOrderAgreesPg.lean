/- Texts of the proof. -/
import Derived.Test.YtkananhhhkkpkaaChecked
import Derived.KernelRfl
import Derived.Test.YtkananhhhkkpkaaOrderAgreesPf
section
namespace Go.Tm
structure Seat (P : Program) (tab : Nat -> TI) : Prop where
 tm : TabOk P tab
 mixed : P.follows .mixedOrders = true
section
variable {P : Program} {tab : Nat -> TI} {lim n : Nat}
theorem Ok.pl {id : Nat} {ops : Array Oper} {st st' : St} {vc : Bool} {acc : List FP} {Q : Exit -> St -> Prop} (S : Seat P tab) (V : List Nat) (hQ : Q .normal st') (hok : regOk n ops false = true := by decide +kernel)
  (h : Comes (runE tab true false ops.toList ops.toList ⟨keep V st.vars, st.heap, st.nx⟩ true []) st' vc acc [] := by intro q hq; simp only [go_sem, Nat.reduceSub, Int.reduceEq, Nat.reduceLT, Nat.reduceDiv, Nat.reduceAdd, Nat.reduceBEq, Nat.reduceLeDiff, reduceCtorEq, Nat.reduceEqDiff, Nat.reduceMod, Nat.reduceMul, zai]; exact hq)
  (hv : vc = true := by first | rfl | (simp only [go_sem, Nat.reduceLeDiff]; done) | (simp only [go_sem, Nat.reduceLeDiff]; rfl) | (simp; done) | (simp [oneD] <;> omega) | (simp_all; done) | (simp_all [oneD] <;> omega)) (hlim : st'.nx <= lim := by first | exact Nat.le_refl _ | exact Nat.le_of_ble_eq_true rfl | (dsimp only; omega) | (simp <;> omega)) : Ok P lim n (.region id ops false) st Q :=
 .plain S.tm S.mixed V hok h hv hlim hQ
theorem Ok.plx {X : Prop} {id : Nat} {ops : Array Oper} {st st' : St} {vc : Bool} {acc : List FP} {Q : Exit -> St -> Prop} (S : Seat P tab) (x : X) (V : List Nat) (hQ : Q .normal st') (hok : regOk n ops false = true := by decide +kernel)
  (h : X -> Comes (runE tab true false ops.toList ops.toList ⟨keep V st.vars, st.heap, st.nx⟩ true []) st' vc acc [] := by intro x q hq; simp only [go_sem, Nat.reduceSub, Int.reduceEq, Nat.reduceLT, Nat.reduceDiv, Nat.reduceAdd, Nat.reduceBEq, Nat.reduceLeDiff, reduceCtorEq, Nat.reduceEqDiff, Nat.reduceMod, Nat.reduceMul, zai, x]; exact hq)
  (hv : vc = true := by first | rfl | (simp only [go_sem, Nat.reduceLeDiff]; done) | (simp only [go_sem, Nat.reduceLeDiff]; rfl) | (simp; done) | (simp [oneD] <;> omega) | (simp_all; done) | (simp_all [oneD] <;> omega)) (hlim : st'.nx <= lim := by first | exact Nat.le_refl _ | exact Nat.le_of_ble_eq_true rfl | (dsimp only; omega) | (simp <;> omega)) : Ok P lim n (.region id ops false) st Q :=
 .plain S.tm S.mixed V hok (h x) hv hlim hQ
theorem Ok.dr {id : Nat} {ops : Array Oper} {st st' : St} {vc : Bool} {acc : List FP} {Q : Exit -> St -> Prop} (S : Seat P tab) (V : List Nat) (hQ : Q .normal st') (hok : regOk n ops true = true := by decide +kernel)
  (h : Comes (runE tab true true ops.toList ops.toList ⟨keep V st.vars, st.heap, st.nx⟩ true []) st' vc acc [] := by intro q hq; simp only [go_sem, Nat.reduceSub, Int.reduceEq, Nat.reduceLT, Nat.reduceDiv, Nat.reduceAdd, Nat.reduceBEq, Nat.reduceLeDiff, reduceCtorEq, Nat.reduceEqDiff, Nat.reduceMod, Nat.reduceMul, zai]; exact hq)
  (hs : zk5 ops (fun i => (acc[i]?).getD zhv) = true := by exact zaj (by kernel_rfl))
  (hv : vc = true := by first | rfl | (simp only [go_sem, Nat.reduceLeDiff]; done) | (simp only [go_sem, Nat.reduceLeDiff]; rfl) | (simp; done) | (simp [oneD] <;> omega) | (simp_all; done) | (simp_all [oneD] <;> omega)) (hlim : st'.nx <= lim := by first | exact Nat.le_refl _ | exact Nat.le_of_ble_eq_true rfl | (dsimp only; omega) | (simp <;> omega)) : Ok P lim n (.region id ops true) st Q :=
 .drawn S.tm S.mixed V hok h hs hv hlim hQ
theorem Ok.drx {X : Prop} {id : Nat} {ops : Array Oper} {st st' : St} {vc : Bool} {acc : List FP} {Q : Exit -> St -> Prop} (S : Seat P tab) (x : X) (V : List Nat) (hQ : Q .normal st') (hok : regOk n ops true = true := by decide +kernel)
  (h : X -> Comes (runE tab true true ops.toList ops.toList ⟨keep V st.vars, st.heap, st.nx⟩ true []) st' vc acc [] := by intro x q hq; simp only [go_sem, Nat.reduceSub, Int.reduceEq, Nat.reduceLT, Nat.reduceDiv, Nat.reduceAdd, Nat.reduceBEq, Nat.reduceLeDiff, reduceCtorEq, Nat.reduceEqDiff, Nat.reduceMod, Nat.reduceMul, zai, x]; exact hq)
  (hs : zk5 ops (fun i => (acc[i]?).getD zhv) = true := by exact zaj (by kernel_rfl))
  (hv : vc = true := by first | rfl | (simp only [go_sem, Nat.reduceLeDiff]; done) | (simp only [go_sem, Nat.reduceLeDiff]; rfl) | (simp; done) | (simp [oneD] <;> omega) | (simp_all; done) | (simp_all [oneD] <;> omega)) (hlim : st'.nx <= lim := by first | exact Nat.le_refl _ | exact Nat.le_of_ble_eq_true rfl | (dsimp only; omega) | (simp <;> omega)) : Ok P lim n (.region id ops true) st Q :=
 .drawn S.tm S.mixed V hok (h x) hs hv hlim hQ
theorem Ok.rg {id : Nat} {ops : Array Oper} {draw : Bool} {st : St} {Q : Exit -> St -> Prop} (S : Seat P tab) (V : List Nat) (h : RegA P tab true lim ops draw ⟨keep V st.vars, st.heap, st.nx⟩ (Q .normal)) (hok : regOk n ops draw = true := by decide +kernel) : Ok P lim n (.region id ops draw) st Q := Ok.region S.tm S.mixed V hok h
theorem WRun.rn {ops : Array Oper} (k : Nat) {l l' : List Oper} {st st' : St} {acc acc' : List FP} {Q : St -> List FP -> Prop} {vc : Bool}
  (hQ : WRun P tab true lim ops l' st' acc' Q) (hdr : false = true \/ ∀ st a b, Q st a -> Q st b := by exact .inr fun _ _ _ h => ⟨nofun, h.2⟩)
  (h : Comes (runK tab true false ops.toList k l st true acc) st' vc acc' l' := by intro q hq; simp only [go_sem, Nat.reduceSub, Int.reduceEq, Nat.reduceLT, Nat.reduceDiv, Nat.reduceAdd, Nat.reduceBEq, Nat.reduceLeDiff, reduceCtorEq, Nat.reduceEqDiff, Nat.reduceMod, Nat.reduceMul, zai]; exact hq) (hv : vc = true := by first | rfl | (simp only [go_sem, Nat.reduceLeDiff]; done) | (simp only [go_sem, Nat.reduceLeDiff]; rfl) | (simp; done) | (simp [oneD] <;> omega) | (simp_all; done) | (simp_all [oneD] <;> omega)) (hlim : st'.nx <= lim := by first | exact Nat.le_refl _ | exact Nat.le_of_ble_eq_true rfl | (dsimp only; omega) | (simp <;> omega)) : WRun P tab true lim ops l st acc Q :=
 WRun.EN k h.eq hdr hv hlim hQ
theorem WRun.rnx {X : Prop} {ops : Array Oper} (k : Nat) {l l' : List Oper} {st st' : St} {acc acc' : List FP} {Q : St -> List FP -> Prop} {vc : Bool} (x : X)
  (hQ : WRun P tab true lim ops l' st' acc' Q) (hdr : false = true \/ ∀ st a b, Q st a -> Q st b := by exact .inr fun _ _ _ h => ⟨nofun, h.2⟩)
  (h : X -> Comes (runK tab true false ops.toList k l st true acc) st' vc acc' l' := by intro x q hq; simp only [go_sem, Nat.reduceSub, Int.reduceEq, Nat.reduceLT, Nat.reduceDiv, Nat.reduceAdd, Nat.reduceBEq, Nat.reduceLeDiff, reduceCtorEq, Nat.reduceEqDiff, Nat.reduceMod, Nat.reduceMul, zai, x]; exact hq) (hv : vc = true := by first | rfl | (simp only [go_sem, Nat.reduceLeDiff]; done) | (simp only [go_sem, Nat.reduceLeDiff]; rfl) | (simp; done) | (simp [oneD] <;> omega) | (simp_all; done) | (simp_all [oneD] <;> omega)) (hlim : st'.nx <= lim := by first | exact Nat.le_refl _ | exact Nat.le_of_ble_eq_true rfl | (dsimp only; omega) | (simp <;> omega)) : WRun P tab true lim ops l st acc Q :=
 WRun.EN k (h x).eq hdr hv hlim hQ
theorem WRun.rd {ops : Array Oper} (k : Nat) {l l' : List Oper} {st st' : St} {acc acc' : List FP} {Q : St -> List FP -> Prop} {vc : Bool}
  (hQ : WRun P tab true lim ops l' st' acc' Q)
  (h : Comes (runK tab true true ops.toList k l st true acc) st' vc acc' l' := by intro q hq; simp only [go_sem, Nat.reduceSub, Int.reduceEq, Nat.reduceLT, Nat.reduceDiv, Nat.reduceAdd, Nat.reduceBEq, Nat.reduceLeDiff, reduceCtorEq, Nat.reduceEqDiff, Nat.reduceMod, Nat.reduceMul, zai]; exact hq) (hv : vc = true := by first | rfl | (simp only [go_sem, Nat.reduceLeDiff]; done) | (simp only [go_sem, Nat.reduceLeDiff]; rfl) | (simp; done) | (simp [oneD] <;> omega) | (simp_all; done) | (simp_all [oneD] <;> omega)) (hlim : st'.nx <= lim := by first | exact Nat.le_refl _ | exact Nat.le_of_ble_eq_true rfl | (dsimp only; omega) | (simp <;> omega)) : WRun P tab true lim ops l st acc Q :=
 WRun.EN k h.eq (.inl rfl) hv hlim hQ
theorem WRun.rdx {X : Prop} {ops : Array Oper} (k : Nat) {l l' : List Oper} {st st' : St} {acc acc' : List FP} {Q : St -> List FP -> Prop} {vc : Bool} (x : X)
  (hQ : WRun P tab true lim ops l' st' acc' Q)
  (h : X -> Comes (runK tab true true ops.toList k l st true acc) st' vc acc' l' := by intro x q hq; simp only [go_sem, Nat.reduceSub, Int.reduceEq, Nat.reduceLT, Nat.reduceDiv, Nat.reduceAdd, Nat.reduceBEq, Nat.reduceLeDiff, reduceCtorEq, Nat.reduceEqDiff, Nat.reduceMod, Nat.reduceMul, zai, x]; exact hq) (hv : vc = true := by first | rfl | (simp only [go_sem, Nat.reduceLeDiff]; done) | (simp only [go_sem, Nat.reduceLeDiff]; rfl) | (simp; done) | (simp [oneD] <;> omega) | (simp_all; done) | (simp_all [oneD] <;> omega)) (hlim : st'.nx <= lim := by first | exact Nat.le_refl _ | exact Nat.le_of_ble_eq_true rfl | (dsimp only; omega) | (simp <;> omega)) : WRun P tab true lim ops l st acc Q :=
 WRun.EN k (h x).eq (.inl rfl) hv hlim hQ
end
theorem za2 {α : Type} {b c : Prop} [Decidable c] {x y r : α} (h : (if c then x else y) = r) (hb : b) (hc : b -> c := by intro hb; first | exact hb | (simp at hb ⊢; done) | (simp at hb ⊢; exact hb) | (simp at hb ⊢; omega) | (simp at hb ⊢; grind) | grind) : x = r := ite_l h (hc hb)
theorem zac {α : Type} {b c : Prop} [Decidable c] {x y r : α} (h : (if c then x else y) = r) (hb : b) (hc : b -> ¬ c := by intro hb; first | exact hb | (simp at hb ⊢; done) | (simp at hb ⊢; exact hb) | (simp at hb ⊢; omega) | (simp at hb ⊢; grind) | grind) : y = r := ite_r h (hc hb)
theorem gd {b p : Prop} (hg : b) (h : b -> p := by intro hg; first | (simp only [opds, opd, ev, ofVal, getR, getL, Nat.beq, cond_true, cond_false, Bool.not_true, Bool.false_or, Bool.and_true, Bool.true_and, Prod.mk.injEq, true_and]; done) | (simp only [opds, opd, ev, ofVal, getR, getL, Nat.beq, cond_true, cond_false, Bool.not_true, Bool.false_or, Bool.and_true, Bool.true_and, Prod.mk.injEq, true_and]; first | exact hg | (simp at hg ⊢; done) | (simp at hg ⊢; exact hg) | (simp at hg ⊢; grind)) | rfl) : p := h hg
theorem rsi0 {tab : Nat -> TI} {st : St} {l : List ResultVar} {r : D} (h : ResIs tab st l r := by simp only [ResIs, resL, resD, resT, go_sem, Nat.reduceSub, Int.reduceEq, Nat.reduceLT, Nat.reduceDiv, Nat.reduceAdd, Nat.reduceBEq, Nat.reduceLeDiff, reduceCtorEq, Nat.reduceEqDiff, Nat.reduceMod, Nat.reduceMul, zai]) : ResIs tab st l r := h
theorem rsi {tab : Nat -> TI} {st : St} {l : List ResultVar} {r : D} (h : ResIs tab st l r := by simp only [ResIs, resL, resD, resT, go_sem, Nat.reduceSub, Int.reduceEq, Nat.reduceLT, Nat.reduceDiv, Nat.reduceAdd, Nat.reduceBEq, Nat.reduceLeDiff, reduceCtorEq, Nat.reduceEqDiff, Nat.reduceMod, Nat.reduceMul, zai]) : ∃ ds, resL tab st l = some (ds, true) /\ resT ds = r := h.to
theorem Goes.m {lim n0 : Nat} {st s : St} (V H : List Nat) (ps : List (Nat × Nat)) (h1 : (⟨mvV (mvF ps) (pickL V st.vars), mvH (mvF ps) (pickL H st.heap), s.nx⟩ : St) = s := by first | with_reducible rfl | (simp only [go_sem, Nat.reduceBEq, Nat.reduceAdd]; done) | (simp only [go_sem, Nat.reduceBEq, Nat.reduceAdd]; with_reducible rfl) | rfl | (simp only [go_sem, Nat.reduceBEq, Nat.reduceAdd]; rfl))
  (h2 : n0 <= s.nx := by exact Nat.le_of_ble_eq_true rfl) (h3 : s.nx <= lim := by exact Nat.le_of_ble_eq_true rfl) (h4 : mvOk ps n0 s.nx (idsV (pickL V st.vars) ++ idsH (pickL H st.heap)) = true := by kernel_rfl) : Goes lim n0 st s := .mv V H ps h1 h2 h3 h4
theorem Goes.mx {X : Prop} {lim n0 : Nat} {st s : St} (x : X) (V H : List Nat) (ps : List (Nat × Nat)) (h1 : X -> (⟨mvV (mvF ps) (pickL V st.vars), mvH (mvF ps) (pickL H st.heap), s.nx⟩ : St) = s := by intro x; first | with_reducible rfl | (simp only [x, go_sem, Nat.reduceBEq, Nat.reduceAdd, Bool.false_and, Bool.true_or, Bool.and_false]; done) | (simp only [x, go_sem, Nat.reduceBEq, Nat.reduceAdd, Bool.false_and, Bool.true_or, Bool.and_false]; with_reducible rfl) | rfl | (simp only [x, go_sem, Nat.reduceBEq, Nat.reduceAdd, Bool.false_and, Bool.true_or, Bool.and_false]; rfl))
  (h2 : n0 <= s.nx := by exact Nat.le_of_ble_eq_true rfl) (h3 : s.nx <= lim := by exact Nat.le_of_ble_eq_true rfl) (h4 : mvOk ps n0 s.nx (idsV (pickL V st.vars) ++ idsH (pickL H st.heap)) = true := by kernel_rfl) : Goes lim n0 st s := .mv V H ps (h1 x) h2 h3 h4
end Go.Tm
end
section
namespace Go.Tm
structure PlN {α : Type} (f g : α -> D) : Prop where
 un : ∀ x, unf (f x) = g x
 ids : ∀ x, (f x).ids = []
 lo : ∀ x, okM low3 (f x) = true
 nw : ∀ x, okM new1 (f x) = true
section
variable {α : Type} {f g : α -> D} (hf : PlN f g)
include hf
theorem PlN.unfL (l : List α) : Tm.unfL (l.map f) = l.map g := by
 induction l with
 | nil => rfl
 | cons x l ih => simp only [List.map_cons, Tm.unfL, hf.un, ih]
theorem PlN.idsL (l : List α) : D.idsL (l.map f) = [] := by
 induction l with
 | nil => rfl
 | cons x l ih => simp only [List.map_cons, D.idsL, hf.ids, ih, List.nil_append]
theorem PlN.okLo (l : List α) : Tm.okML low3 (l.map f) = true := by
 induction l with
 | nil => rfl
 | cons x l ih => simp only [List.map_cons, Tm.okML, hf.lo, ih, Bool.and_self]
theorem PlN.okNw (l : List α) : Tm.okML new1 (l.map f) = true := by
 induction l with
 | nil => rfl
 | cons x l ih => simp only [List.map_cons, Tm.okML, hf.nw, ih, Bool.and_self]
theorem zl7 {hp : Nat -> Option Blk} {id s e n : Nat} {oc : Option Nat} {l : List α} (h : hp id = some (.arr e s true (l.map f))) (hn : n = l.length) : lend hp (.ref id s 0 n oc) = (.imm s (l.map g) 4, true) := by
 subst hn
 have ht : (l.map f).take l.length = l.map f := List.take_of_length_le (by simp)
 simp only [lend, h, List.drop_zero, ht, hf.unfL, hf.okLo, hf.idsL, List.length_map, Nat.zero_add, Nat.beq_refl, List.isEmpty_nil, Bool.and_true, Bool.true_and, Prod.mk.injEq, true_and]
 exact Nat.ble_eq_true_of_le (Nat.le_refl _)
theorem ziq {hp : Nat -> Option Blk} {id s e n : Nat} {oc : Option Nat} {l : List α} (h : hp id = some (.arr e s true (l.map f))) (hn : n = l.length) : frz hp (.ref id s 0 n oc) = (.imm s (l.map g) 12, true) := by
 subst hn
 have ht : (l.map f).take l.length = l.map f := List.take_of_length_le (by simp)
 simp only [frz, h, List.drop_zero, ht, hf.unfL, hf.okNw, hf.idsL, List.length_map, Nat.zero_add, Nat.beq_refl, List.isEmpty_nil, Bool.and_true, Bool.true_and, Prod.mk.injEq, true_and]
 exact Nat.ble_eq_true_of_le (Nat.le_refl _)
theorem zjg (e s : Nat) (l : List α) : newB (some (.arr e s true (l.map f))) = true := by simp only [newB, hf.okNw, Bool.and_self]
end
theorem ze5 {α : Type} {f g : α -> D} (m : Nat) (h : ∀ x, mkM m (g x) = f x) (l : List α) : mkML m (l.map g) = l.map f := by
 induction l with
 | nil => rfl
 | cons x l ih => simp only [List.map_cons, mkML, h, ih]
def WkN (d d' : D) : Prop := ∀ (fr : Nat) (w : World) (g : Gh) (hp : Nat -> Option Blk) (nu : Nat -> Bool), Mem fr w g hp nu -> ∀ (q : Bool) (v : Value), rep { cx w g hp with rf := q } d v -> rep { cx w g hp with rf := q } d' v
theorem WkN.refl (d : D) : WkN d d := fun _ _ _ _ _ _ _ _ h => h
def WkNs : List D -> List D -> Prop
 | [], [] => True
 | d :: l, d' :: l' => WkN d d' /\ WkNs l l'
 | _, _ => False
theorem WkNs.refl : ∀ l : List D, WkNs l l
 | [] => trivial
 | d :: l => ⟨.refl d, WkNs.refl l⟩
theorem WkNs.len : ∀ {a b : List D}, WkNs a b -> a.length = b.length
 | [], [], _ => rfl
 | _ :: _, _ :: _, h => by simp only [List.length_cons, WkNs.len h.2]
 | [], _ :: _, h => h.elim
 | _ :: _, [], h => h.elim
theorem WkNs.elems {fr : Nat} {w : World} {g : Gh} {hp : Nat -> Option Blk} {nu : Nat -> Bool} (hM : Mem fr w g hp nu) (q : Bool) : ∀ {l l' : List D}, WkNs l l' -> ∀ b o s, Tm.elems { cx w g hp with rf := q } l b o s -> Tm.elems { cx w g hp with rf := q } l' b o s
 | [], [], _, _, _, _, h => h
 | d :: l, d' :: l', hw, b, o, s, h => by
  simp only [Tm.elems] at h ⊢
  obtain ⟨⟨v, h1, h2⟩, h3⟩ := h
  exact ⟨⟨v, hw.1 fr w g hp nu hM q v h1, h2⟩, WkNs.elems hM q hw.2 b (o + s) s h3⟩
 | [], _ :: _, hw, _, _, _, _ => hw.elim
 | _ :: _, [], hw, _, _, _, _ => hw.elim
theorem Goes.arr {lim n0 : Nat} {st s : St} (id : Nat) (items items' : List D) {e s' : Nat} {p : Bool} (hd : getL st.heap id = some (.arr e s' p items)) (hw : WkNs items items') (h : Goes lim n0 ⟨st.vars, put st.heap id (.arr e s' p items'), st.nx⟩ s) : Goes lim n0 st s := by
 intro E n F a w g hE hF hR
 obtain ⟨h1, h2, h3⟩ := hF
 have hid : F.hp id = some (.arr e s' p items) := by rw [h2]; exact hd
 have hp : ∀ i, getL (put st.heap id (.arr e s' p items')) i = if id = i then some (.arr e s' p items') else F.hp i := by
  intro i; rw [zgz, h2]
 have hne : ∀ i, getL (put st.heap id (.arr e s' p items')) i ≠ none ↔ F.hp i ≠ none := by
  intro i
  rw [hp]
  by_cases e : id = i
  ·subst e; simp [hid]
  ·rw [if_neg e]
 have hown : ownB g (getL (put st.heap id (.arr e s' p items'))) = ownB g F.hp := by
  funext b
  apply propext
  constructor
  ·rintro ⟨i, o, k1, k2⟩; exact ⟨i, o, (hne i).1 k1, k2⟩
  ·rintro ⟨i, o, k1, k2⟩; exact ⟨i, o, (hne i).2 k1, k2⟩
 have hcx : cx w g (getL (put st.heap id (.arr e s' p items'))) = cx w g F.hp := by simp only [cx, hown]
 refine h E n ⟨F.rd, getL (put st.heap id (.arr e s' p items')), F.nu⟩ a w g hE ⟨h1, rfl, h3⟩ ⟨hR.sz, hR.df, fun t => by rw [hcx]; exact hR.rd t, ⟨fun i blk hb => ?_, fun i i' b o o' k1 k2 => hR.mem.inj i i' b o o' ((hne i).1 k1) ((hne i').1 k2), fun i hi => ?_, ?_, hR.mem.fl⟩, fun i b o k1 => hR.base i b o ((hne i).1 k1), hR.keep, hR.gz, hR.gs, hR.nu⟩
 ·have hb : getL (put st.heap id (.arr e s' p items')) i = some blk := hb
  rw [hcx]
  rw [hp] at hb
  by_cases e : id = i
  ·subst e
   rw [if_pos rfl] at hb
   cases hb
   rcases hR.mem.hd id _ hid with ⟨e1, e2⟩ | ⟨b, cs, e1, e2, e3, e4⟩
   ·subst e1
    have : items' = [] := List.eq_nil_of_length_eq_zero hw.len.symm
    exact .inl ⟨this, e2⟩
   ·exact .inr ⟨b, cs, e1, e2, by rw [<- hw.len]; exact e3, WkNs.elems hR.mem _ hw _ _ _ e4⟩
  ·rw [if_neg e] at hb
   exact hR.mem.hd i blk hb
 ·obtain ⟨k1, k2⟩ := hR.mem.nw i hi
  refine ⟨k1, ?_⟩
  rcases Classical.em (getL (put st.heap id (.arr e s' p items')) i = none) with e | e
  ·exact e
  ·exact absurd k2 ((hne i).1 e)
 ·rw [hown]; exact hR.mem.zs
theorem setN_map {α : Type} (f : α -> D) (l : List α) (i : Nat) (x : α) : setN (l.map f) i (f x) = (l.set i x).map f := by
 unfold setN
 exact List.map_set.symm
end Go.Tm
namespace Go.Tm
theorem zkj (d : D) : mkZ 1 d = mkM 1 d := rfl
theorem zij (l : List D) : mkZL 1 l = mkML 1 l := rfl
theorem zkl (k : IntKind) (l : List Int) : mkML 1 (l.map (D.int k)) = l.map (D.int k) := ze5 1 (fun _ => rfl) l
theorem zkk (l : List (List UInt8)) : mkML 1 (l.map D.str) = l.map D.str := ze5 1 (fun _ => rfl) l
theorem zik (l : List Bool) : mkML 1 (l.map D.bool) = l.map D.bool := ze5 1 (fun _ => rfl) l
theorem Goes.refl {lim n0 : Nat} {st : St} : Goes lim n0 st st := fun _ _ F _ _ g _ hF hR => ⟨F, g, hF, hR⟩
end Go.Tm
namespace Go.Tm
def toBytes (l : List Int) : List UInt8 := l.map fun n => UInt8.ofNat n.toNat
def zjf (l : List UInt8) : List Int := l.map fun b => (b.toNat : Int)
theorem zge (l : List Int) : zj2 (l.map (D.int .u8)) = some (toBytes l) := by
 induction l with
 | nil => rfl
 | cons x l ih => simp only [List.map_cons, zj2, ih, toBytes]
theorem znv (l : List UInt8) : l.map ub = (zjf l).map (D.int .u8) := by
 simp only [zjf, List.map_map]; rfl
end Go.Tm
namespace Go.Tm
end Go.Tm
namespace Go.Tm
def WkGs : List D -> List D -> Prop
 | [], [] => True
 | d :: l, d' :: l' => WkG d d' /\ WkGs l l'
 | _, _ => False
theorem WkG.refl (d : D) : WkG d d := fun _ _ _ _ _ _ _ h => h
theorem WkGs.cons {d d' : D} {l l' : List D} (h : WkG d d') (hl : WkGs l l') : WkGs (d :: l) (d' :: l') := ⟨h, hl⟩
theorem WkGs.keep {d : D} {l l' : List D} (hl : WkGs l l') : WkGs (d :: l) (d :: l') := ⟨.refl d, hl⟩
theorem WkGs.refl : ∀ l : List D, WkGs l l
 | [] => trivial
 | d :: l => ⟨.refl d, WkGs.refl l⟩
theorem WkGs.reps {fr : Nat} {w : World} {g : Gh} {hp : Nat -> Option Blk} {nu : Nat -> Bool} (hM : Mem fr w g hp nu) : ∀ {l l' : List D}, WkGs l l' -> ∀ vs, Tm.reps (cx w g hp) l vs -> Tm.reps (cx w g hp) l' vs
 | [], [], _, vs, h => h
 | d :: l, d' :: l', hw, vs, h => by
  simp only [Tm.reps] at h ⊢
  obtain ⟨v, vs', e, h1, h2⟩ := h
  exact ⟨v, vs', e, hw.1 fr w g hp nu hM v h1, WkGs.reps hM hw.2 vs' h2⟩
 | [], _ :: _, hw, _, _ => hw.elim
 | _ :: _, [], hw, _, _ => hw.elim
theorem WkG.aggs {l l' : List D} (h : WkGs l l') : WkG (.agg l) (.agg l') := by
 intro fr w g hp nu hM v hv
 simp only [rep] at hv ⊢
 obtain ⟨cs, e, hc⟩ := hv
 exact ⟨cs, e, h.reps hM _ hc⟩
theorem Goes.boxs {lim n0 : Nat} {st s : St} (id : Nat) (cells cells' : List D) (hd : getL st.heap id = some (.box cells)) (hw : WkGs cells cells') (h : Goes lim n0 ⟨st.vars, put st.heap id (.box cells'), st.nx⟩ s) : Goes lim n0 st s := by
 intro E n F a w g hE hF hR
 obtain ⟨h1, h2, h3⟩ := hF
 have hid : F.hp id = some (.box cells) := by rw [h2]; exact hd
 have hp : ∀ i, getL (put st.heap id (.box cells')) i = if id = i then some (.box cells') else F.hp i := by
  intro i; rw [zgz, h2]
 have hne : ∀ i, getL (put st.heap id (.box cells')) i ≠ none ↔ F.hp i ≠ none := by
  intro i
  rw [hp]
  by_cases e : id = i
  ·subst e; simp [hid]
  ·rw [if_neg e]
 have hown : ownB g (getL (put st.heap id (.box cells'))) = ownB g F.hp := by
  funext b
  apply propext
  constructor
  ·rintro ⟨i, o, k1, k2⟩; exact ⟨i, o, (hne i).1 k1, k2⟩
  ·rintro ⟨i, o, k1, k2⟩; exact ⟨i, o, (hne i).2 k1, k2⟩
 have hcx : cx w g (getL (put st.heap id (.box cells'))) = cx w g F.hp := by simp only [cx, hown]
 refine h E n ⟨F.rd, getL (put st.heap id (.box cells')), F.nu⟩ a w g hE ⟨h1, rfl, h3⟩ ⟨hR.sz, hR.df, fun t => by rw [hcx]; exact hR.rd t, ⟨fun i blk hb => ?_, fun i i' b o o' k1 k2 => hR.mem.inj i i' b o o' ((hne i).1 k1) ((hne i').1 k2), fun i hi => ?_, ?_, hR.mem.fl⟩, fun i b o k1 => hR.base i b o ((hne i).1 k1), hR.keep, hR.gz, hR.gs, hR.nu⟩
 ·have hb : getL (put st.heap id (.box cells')) i = some blk := hb
  rw [hcx]
  rw [hp] at hb
  by_cases e : id = i
  ·subst e
   rw [if_pos rfl] at hb
   cases hb
   obtain ⟨b, cs, T, e1, e2, e3, e4⟩ := hR.mem.hd id _ hid
   exact ⟨b, cs, T, e1, e2, hw.reps hR.mem _ e3, e4⟩
  ·rw [if_neg e] at hb
   exact hR.mem.hd i blk hb
 ·obtain ⟨k1, k2⟩ := hR.mem.nw i hi
  refine ⟨k1, ?_⟩
  rcases Classical.em (getL (put st.heap id (.box cells')) i = none) with e | e
  ·exact e
  ·exact absurd k2 ((hne i).1 e)
 ·rw [hown]; exact hR.mem.zs
end Go.Tm
namespace Go.Tm
theorem WkG.of_new12 (s : Nat) (l : List D) {c : Nat} (hc : c / 8 = 1) : WkG (.imm s l c) (.imm s l 12) := by
 intro fr w g hp nu hM v h
 simp only [rep, hc] at h ⊢
 obtain ⟨a, cap, rfl, h1, h2, _, _, _, h6, hfl, h7⟩ := h
 exact ⟨a, cap, rfl, h1, h2, by simp, by simp, by simp, h6, fun _ => hfl (by omega), h7⟩
end Go.Tm
namespace Go.Tm
theorem callH_wkG {P : Program} {K : FuncId} {args args' : List D} {H : List (Nat × Blk)} {r : D} {eff : List (Nat × Option Blk)} {nw : Nat × Nat} (h : WkGs args args') (hK : CallH P K args' H r eff nw) : CallH P K args H r eff nw :=
 ⟨hK.1, fun fr w g hp nu vs hM hH hn hvs => hK.2 fr w g hp nu vs hM hH hn (h.reps hM vs hvs)⟩
theorem zbc {P : Program} {K : FuncId} {args : List D} {H : List (Nat × Blk)} {r : D} {eff : List (Nat × Option Blk)} {nw : Nat × Nat} (a b : Nat) (h : CallH P K args H r eff nw) (ha : Nat.blt a nw.1 = true := by rfl) (hb : Nat.blt b nw.1 = true := by rfl) :
  CallH P K (D.renL (sw a b) args) (mvH (sw a b) H) (r.ren (sw a b)) (renE (sw a b) eff) nw := by
 refine zlo (π := sw a b) (sw_sw a b) nw (fun id h1 h2 => ?_) h
 have ha := Nat.le_of_ble_eq_true ha
 have hb := Nat.le_of_ble_eq_true hb
 have e : sw a b id = id := by
  unfold sw
  rw [zby (by omega), zby (by omega)]; rfl
 rw [e]; exact ⟨h1, h2⟩
theorem zhp {P : Program} {K : FuncId} {args : List D} {H : List (Nat × Blk)} {r : D} {eff : List (Nat × Option Blk)} {a b : Nat} (n : Nat) (h : CallH P K args H r eff (a, b)) (hn : Nat.ble (n + (b - a)) a = true := by rfl) :
  CallH P K (D.renL (bsw n a (b - a)) args) (mvH (bsw n a (b - a)) H) (r.ren (bsw n a (b - a))) (renE (bsw n a (b - a)) eff) (n, n + (b - a)) := by
 have hn := Nat.le_of_ble_eq_true hn
 refine zlo (π := bsw n a (b - a)) (bsw_bsw hn) _ (fun id h1 h2 => ?_) h
 have h1 : a <= id := h1
 have h2 : id < b := h2
 have e1 : (Nat.ble n id && Nat.blt id (n + (b - a))) = false := by
  rw [<- Bool.not_eq_true]; simp only [Bool.and_eq_true]
  rintro ⟨_, k⟩
  have := Nat.le_of_ble_eq_true k
  omega
 have e2 : (Nat.ble a id && Nat.blt id (a + (b - a))) = true := by
  simp only [Bool.and_eq_true]
  exact ⟨Nat.ble_eq_true_of_le h1, Nat.ble_eq_true_of_le (by omega)⟩
 simp only [bsw, e1, e2, cond_false, cond_true]
 omega
end Go.Tm
namespace Go.Tm
theorem zcr (a b : Nat) : Nat.beq a b = (a == b) := by
 by_cases h : a = b
 ·subst h; simp
 ·rw [zby h]; exact (beq_eq_false_iff_ne.2 h).symm
end Go.Tm
namespace Go.Tm
end Go.Tm
namespace Go.Tm
def mget {α β : Type} [DecidableEq α] (k : α) : List (α × β) -> Option β
 | [] => none
 | x :: l => if k = x.1 then some x.2 else mget k l
def mput {α β : Type} [DecidableEq α] (k : α) (v : β) : List (α × β) -> List (α × β)
 | [] => [(k, v)]
 | x :: l => if k = x.1 then (k, v) :: l else x :: mput k v l
def mapD {α β : Type} (f : α -> D) (g : β -> D) (l : List (α × β)) : List (D × D) := l.map fun x => (f x.1, g x.2)
theorem zhk {β : Type} (q : IntKind) (g : β -> D) (k : Int) (l : List (Int × β)) : findD (.int q k) (mapD (D.int q) g l) = some ((mget k l).map g) := by
 induction l with
 | nil => rfl
 | cons x l ih =>
  simp only [mapD, List.map_cons, findD, keyEq, decide_true, cond_true, mget] at ih ⊢
  by_cases h : k = x.1
  ·simp [h]
  ·have : (k == x.1) = false := beq_eq_false_iff_ne.2 h
   simp only [this, h, if_false]
   exact ih
theorem zhj {β : Type} (g : β -> D) (k : List UInt8) (l : List (List UInt8 × β)) : findD (.str k) (mapD D.str g l) = some ((mget k l).map g) := by
 induction l with
 | nil => rfl
 | cons x l ih =>
  simp only [mapD, List.map_cons, findD, keyEq, mget] at ih ⊢
  by_cases h : k = x.1
  ·simp [h]
  ·have : (k == x.1) = false := beq_eq_false_iff_ne.2 h
   simp only [this, h, if_false]
   exact ih
theorem updD_int {β : Type} (q : IntKind) (g : β -> D) (k : Int) (v : β) (d : D) (hd : d = g v) (l : List (Int × β)) : updD (.int q k) d (mapD (D.int q) g l) = some (mapD (D.int q) g (mput k v l)) := by
 subst hd
 induction l with
 | nil => rfl
 | cons x l ih =>
  simp only [mapD, List.map_cons, updD, keyEq, decide_true, cond_true, mput] at ih ⊢
  by_cases h : k = x.1
  ·simp [h]
  ·have : (k == x.1) = false := beq_eq_false_iff_ne.2 h
   simp only [this, h, if_false, ih, List.map_cons]
theorem getD_map {α : Type} (f : α -> D) (z : α) (o : Option α) : (o.map f).getD (f z) = f (o.getD z) := by cases o <;> rfl
theorem zio (q : IntKind) (z : Int) (o : Option Int) : (o.map (D.int q)).getD (.int q z) = .int q (o.getD z) := getD_map _ z o
theorem zin (z : List UInt8) (o : Option (List UInt8)) : (o.map D.str).getD (.str z) = .str (o.getD z) := getD_map _ z o
theorem zhi (z : Bool) (o : Option Bool) : (o.map D.bool).getD (.bool z) = .bool (o.getD z) := getD_map _ z o
theorem Ok.scopeT {P : Program} {lim n : Nat} {c : Code} {st : St} {Q : Exit -> St -> Prop} (h : Ok P lim n c st Q)
  (hQ : ∀ l s, ¬ Q (.goto l) s := by intro l s h; first | exact h | (obtain ⟨h | h, _⟩ := h <;> cases h) | (obtain ⟨_, _, h | h, _⟩ := h <;> cases h)) : Ok P lim n (.scope c) st Q :=
 .scope (h.mono fun _ s hq => ⟨fun l he => hQ l s (he ▸ hq), hq⟩)
end Go.Tm
namespace Go.Tm
theorem callH_res {P : Program} {K : FuncId} {args : List D} {H : List (Nat × Blk)} {r r' : D} {eff : List (Nat × Option Blk)} {nw : Nat × Nat} (hw : WkG r r') (h : CallH P K args H r eff nw) : CallH P K args H r' eff nw :=
 ⟨h.1, fun fr w g hp nu vs hM hH hn hvs => (h.2 fr w g hp nu vs hM hH hn hvs).mono fun _ _ ⟨v, g', he, hA⟩ => ⟨v, g', he, hA.gz, hA.gs, hA.keep, hA.mem, hA.own, hw _ _ _ _ _ hA.mem v hA.res⟩⟩
theorem WkG.un (d : D) : WkG d .undef := fun _ _ _ _ _ _ _ _ => by simp only [rep]
end Go.Tm
end
section
namespace Go.Tm
def mx {α : Type} (f g : α -> D) (k : Nat) (l : List α) : List D := (l.take k).map f ++ (l.drop k).map g
section
variable {α : Type} (f g : α -> D)
theorem znq (k : Nat) (l : List α) : (mx f g k l).length = l.length := by
 simp only [mx, List.length_append, List.length_map, List.length_take, List.length_drop]; omega
theorem mx_nth [Inhabited α] {k : Nat} {l : List α} (h : k < l.length) : nth (mx f g k l) k = g (l.getD k default) := by
 unfold nth mx
 rw [List.getD_eq_getElem?_getD, List.getElem?_append_right (by simp; omega)]
 simp [List.getElem?_drop, h, show min k l.length = k by omega]
theorem mx_set {k : Nat} {l : List α} (y : α) (h : k < l.length) : setN (mx f g k l) k (f y) = mx f g (k + 1) (l.set k y) := by
 unfold setN mx
 have e : ((l.take k).map f).length = k := by simp; omega
 rw [List.set_append_right _ _ (by omega), e, Nat.sub_self]
 have h1 : l.drop k = l[k] :: l.drop (k + 1) := List.drop_eq_getElem_cons h
 rw [h1, List.map_cons, List.set_cons_zero]
 have h2 : (l.set k y).take (k + 1) = l.take k ++ [y] := by
  rw [List.take_succ_eq_append_getElem (by simpa using h)]
  simp [List.take_set_of_le]
 have h3 : (l.set k y).drop (k + 1) = l.drop (k + 1) := by
  rw [List.drop_set_of_lt (by omega)]
 rw [h2, h3]
 simp
theorem mx_zero (l : List α) : mx f g 0 l = l.map g := by simp [mx]
theorem mx_end {k : Nat} {l : List α} (h : l.length <= k) : mx f g k l = l.map f := by
 unfold mx
 rw [List.take_of_length_le h, List.drop_of_length_le h]
 simp
theorem WkNs.of_eq {l l' : List D} (h : l = l') : WkNs l l' := h ▸ .refl l
theorem WkNs.mx0 (l : List α) : WkNs (l.map g) (mx f g 0 l) := .of_eq (mx_zero f g l).symm
theorem WkNs.mxk {k k' : Nat} (l : List α) (h : k = k') : WkNs (mx f g k l) (mx f g k' l) := .of_eq (by rw [h])
theorem WkNs.mxe {k : Nat} {l : List α} (h : l.length <= k) : WkNs (mx f g k l) (l.map f) := .of_eq (mx_end f g h)
end
theorem toNat_succ {n : Int} {l : Nat} (h : 0 <= n /\ n < (l : Int)) (hl : l < 1000000) : n.toNat + 1 = (wr .i64 (n + 1)).toNat := by
 rw [wr_eq _ _ (by show (-9223372036854775808 : Int) <= _; omega) (by show _ <= (9223372036854775807 : Int); omega)]
 omega
theorem Goes.pre {lim n0 : Nat} {st s : St} (id k : Nat) (items : List D) {e s' : Nat} {p : Bool} (hd : getL st.heap id = some (.arr e s' p items)) (h : Goes lim n0 ⟨st.vars, put st.heap id (.arr e s' p (items.take k)), st.nx⟩ s) : Goes lim n0 st s := by
 intro E n F a w g hE hF hR
 obtain ⟨h1, h2, h3⟩ := hF
 let items' := items.take k
 have hid : F.hp id = some (.arr e s' p items) := by rw [h2]; exact hd
 have hp : ∀ i, getL (put st.heap id (.arr e s' p items')) i = if id = i then some (.arr e s' p items') else F.hp i := by
  intro i; rw [zgz, h2]
 have hne : ∀ i, getL (put st.heap id (.arr e s' p items')) i ≠ none ↔ F.hp i ≠ none := by
  intro i
  rw [hp]
  by_cases e : id = i
  ·subst e; simp [hid]
  ·rw [if_neg e]
 have hown : ownB g (getL (put st.heap id (.arr e s' p items'))) = ownB g F.hp := by
  funext b
  apply propext
  constructor
  ·rintro ⟨i, o, k1, k2⟩; exact ⟨i, o, (hne i).1 k1, k2⟩
  ·rintro ⟨i, o, k1, k2⟩; exact ⟨i, o, (hne i).2 k1, k2⟩
 have hcx : cx w g (getL (put st.heap id (.arr e s' p items'))) = cx w g F.hp := by simp only [cx, hown]
 refine h E n ⟨F.rd, getL (put st.heap id (.arr e s' p items')), F.nu⟩ a w g hE ⟨h1, rfl, h3⟩ ⟨hR.sz, hR.df, fun t => by rw [hcx]; exact hR.rd t, ⟨fun i blk hb => ?_, fun i i' b o o' k1 k2 => hR.mem.inj i i' b o o' ((hne i).1 k1) ((hne i').1 k2), fun i hi => ?_, ?_, hR.mem.fl⟩, fun i b o k1 => hR.base i b o ((hne i).1 k1), hR.keep, hR.gz, hR.gs, hR.nu⟩
 ·have hb : getL (put st.heap id (.arr e s' p items')) i = some blk := hb
  rw [hcx]
  rw [hp] at hb
  by_cases e : id = i
  ·subst e
   rw [if_pos rfl] at hb
   cases hb
   rcases hR.mem.hd id _ hid with ⟨e1, e2⟩ | ⟨b, cs, e1, e2, e3, e4⟩
   ·exact .inl ⟨by simp [items', e1], e2⟩
   ·refine .inr ⟨b, cs, e1, e2, Nat.le_trans (Nat.mul_le_mul_right _ (by simp [items']; omega)) e3, zey _ _ _ _ _ e4⟩
  ·rw [if_neg e] at hb
   exact hR.mem.hd i blk hb
 ·obtain ⟨k1, k2⟩ := hR.mem.nw i hi
  refine ⟨k1, ?_⟩
  rcases Classical.em (getL (put st.heap id (.arr e s' p items')) i = none) with e | e
  ·exact e
  ·exact absurd k2 ((hne i).1 e)
 ·rw [hown]; exact hR.mem.zs
theorem zdn {α β : Type} {g : α -> D} {h : β -> D} (hg : ∀ x, (g x).ids = []) (hh : ∀ y, (h y).ids = []) (l : List (α × β)) : idsEs (mapD g h l) = [] := by
 induction l with
 | nil => rfl
 | cons x l ih => simp only [mapD, List.map_cons, idsEs, hg, hh, List.nil_append] at ih ⊢; exact ih
def Blk.renM (f : Nat -> Nat) : Blk -> Blk
 | .map es => .map es
 | b => b.ren f
def mvHM (f : Nat -> Nat) : List (Nat × Blk) -> List (Nat × Blk)
 | [] => []
 | (i, b) :: r => (f i, b.renM f) :: mvHM f r
def Blk.idsM : Blk -> List Nat
 | .map _ => []
 | b => b.ids
def idsHM : List (Nat × Blk) -> List Nat
 | [] => []
 | (i, b) :: r => i :: (b.idsM ++ idsHM r)
def mapsOk : List (Nat × Blk) -> Prop
 | [] => True
 | (_, .map es) :: r => idsEs es = [] /\ mapsOk r
 | _ :: r => mapsOk r
theorem zni (f : Nat -> Nat) : ∀ l : List (D × D), idsEs l = [] -> renEs f l = l
 | [], _ => rfl
 | x :: l, h => by
  simp only [idsEs, List.append_eq_nil_iff] at h
  simp only [renEs, zjb f _ h.1.1, zjb f _ h.1.2, zni f l h.2]
theorem mvHM_eq (f : Nat -> Nat) : ∀ l : List (Nat × Blk), mapsOk l -> mvHM f l = mvH f l /\ idsHM l = idsH l
 | [], _ => ⟨rfl, rfl⟩
 | (i, .map es) :: r, h => by
  obtain ⟨h1, h2⟩ := mvHM_eq f r h.2
  have := zni f es h.1
  simp only [mvHM, mvH, Blk.renM, Blk.ren, this, h1, idsHM, idsH, Blk.idsM, Blk.ids, h.1, h2]
  exact ⟨trivial, trivial⟩
 | (i, .box cs) :: r, h => by
  obtain ⟨h1, h2⟩ := mvHM_eq f r h
  simp only [mvHM, mvH, Blk.renM, h1, idsHM, idsH, Blk.idsM, h2]
  exact ⟨trivial, trivial⟩
 | (i, .arr e s p l) :: r, h => by
  obtain ⟨h1, h2⟩ := mvHM_eq f r h
  simp only [mvHM, mvH, Blk.renM, h1, idsHM, idsH, Blk.idsM, h2]
  exact ⟨trivial, trivial⟩
theorem Goes.mp {lim n0 : Nat} {st s : St} (V H : List Nat) (ps : List (Nat × Nat)) (h5 : mapsOk (pickL H st.heap)) (h1 : (⟨mvV (mvF ps) (pickL V st.vars), mvHM (mvF ps) (pickL H st.heap), s.nx⟩ : St) = s := by first | with_reducible rfl | rfl | (simp only [go_sem, Nat.reduceBEq, Nat.reduceAdd]; rfl))
  (h2 : n0 <= s.nx := by exact Nat.le_of_ble_eq_true rfl) (h3 : s.nx <= lim := by exact Nat.le_of_ble_eq_true rfl) (h4 : mvOk ps n0 s.nx (idsV (pickL V st.vars) ++ idsHM (pickL H st.heap)) = true := by kernel_rfl) : Goes lim n0 st s := by
 obtain ⟨e1, e2⟩ := mvHM_eq (mvF ps) _ h5
 rw [e1] at h1
 rw [e2] at h4
 exact .mv V H ps h1 h2 h3 h4
theorem zbz {P : Program} {K : FuncId} {args : List D} {H : List (Nat × Blk)} {r : D} {eff : List (Nat × Option Blk)} {a b : Nat} (n : Nat) (h : CallH P K args H r eff (a, b)) (hn : (Nat.ble b n && Nat.ble a b) = true := by rfl) :
  CallH P K (D.renL (bsw a n (b - a)) args) (mvH (bsw a n (b - a)) H) (r.ren (bsw a n (b - a))) (renE (bsw a n (b - a)) eff) (n, n + (b - a)) := by
 simp only [Bool.and_eq_true] at hn
 have hn1 := Nat.le_of_ble_eq_true hn.1
 have hn2 := Nat.le_of_ble_eq_true hn.2
 refine zlo (π := bsw a n (b - a)) (bsw_bsw (by omega)) _ (fun id h1 h2 => ?_) h
 have h1 : a <= id := h1
 have h2 : id < b := h2
 have e1 : (Nat.ble a id && Nat.blt id (a + (b - a))) = true := by
  simp only [Bool.and_eq_true]
  exact ⟨Nat.ble_eq_true_of_le h1, Nat.ble_eq_true_of_le (by omega)⟩
 simp only [bsw, e1, cond_true]
 omega
end Go.Tm
end
section
namespace Go.Proofs
open Go.Tm
structure TMessage where
 Id : Int
 Groups : List Int
 Topic : Int
 Key : List UInt8
 Body : List UInt8
 deriving Inhabited, DecidableEq
structure TWait where
 Message : TMessage
 Time : Int
 Final : Bool
 deriving Inhabited, DecidableEq
structure TStamp where
 Time : Int
 Id : Int
 deriving Inhabited, DecidableEq
structure TSkeen where
 Clock : Int
 Waits : List TWait
 Done : List TStamp
 deriving Inhabited, DecidableEq
structure TCommand where
 Kind : Int
 Message : TMessage
 Id : Int
 Time : Int
 Members : List Int
 Topic : Int
 Who : Int
 N : Int
 deriving Inhabited, DecidableEq
structure Tskeen_clock where
 Skeen : TSkeen
 deriving Inhabited, DecidableEq
def TMessage.d (x : TMessage) : D := .agg [.int .i64 x.Id, .imm 1 (x.Groups.map (D.int .i64)) 4, .int .i64 x.Topic, .str x.Key, .str x.Body]
def TMessage.n (x : TMessage) : D := .agg [.int .i64 x.Id, .imm 1 (x.Groups.map (D.int .i64)) 12, .int .i64 x.Topic, .str x.Key, .str x.Body]
theorem zmp : PlN TMessage.n TMessage.d := ⟨fun _ => rfl, fun _ => rfl, fun _ => by first | rfl | simp [TMessage.n, okM, okML, low3], fun _ => by first | rfl | simp [TMessage.n, okM, okML, new1]⟩
theorem zeq (l : List TMessage) : mkML 1 (l.map TMessage.d) = l.map TMessage.n := ze5 1 (fun _ => rfl) l
def TWait.d (x : TWait) : D := .agg [.int .i64 x.Message.Id, .imm 1 (x.Message.Groups.map (D.int .i64)) 4, .int .i64 x.Message.Topic, .str x.Message.Key, .str x.Message.Body, .int .i64 x.Time, .bool x.Final]
def TWait.n (x : TWait) : D := .agg [.int .i64 x.Message.Id, .imm 1 (x.Message.Groups.map (D.int .i64)) 12, .int .i64 x.Message.Topic, .str x.Message.Key, .str x.Message.Body, .int .i64 x.Time, .bool x.Final]
theorem zf6 : PlN TWait.n TWait.d := ⟨fun _ => rfl, fun _ => rfl, fun _ => by first | rfl | simp [TWait.n, okM, okML, low3], fun _ => by first | rfl | simp [TWait.n, okM, okML, new1]⟩
theorem zhg (l : List TWait) : mkML 1 (l.map TWait.d) = l.map TWait.n := ze5 1 (fun _ => rfl) l
def TStamp.d (x : TStamp) : D := .agg [.int .i64 x.Time, .int .i64 x.Id]
theorem zje : Pl TStamp.d := ⟨fun _ => rfl, fun _ => rfl, fun q h _ => by first | rfl | simp [TStamp.d, okM, okML, h]⟩
theorem zg6 (l : List TStamp) : mkML 1 (l.map TStamp.d) = l.map TStamp.d := ze5 1 (fun _ => rfl) l
theorem zfi : Pl0 TStamp.d := ⟨zje, fun _ _ => rfl⟩
def TSkeen.d (x : TSkeen) : D := .agg [.int .i64 x.Clock, .imm 7 (x.Waits.map TWait.d) 4, .imm 2 (x.Done.map TStamp.d) 4]
def TSkeen.n (x : TSkeen) : D := .agg [.int .i64 x.Clock, .imm 7 (x.Waits.map TWait.d) 12, .imm 2 (x.Done.map TStamp.d) 12]
theorem zg7 (l : List TSkeen) : mkML 1 (l.map TSkeen.d) = l.map TSkeen.n := ze5 1 (fun _ => rfl) l
def TCommand.d (x : TCommand) : D := .agg [.int .u8 x.Kind, .int .i64 x.Message.Id, .imm 1 (x.Message.Groups.map (D.int .i64)) 4, .int .i64 x.Message.Topic, .str x.Message.Key, .str x.Message.Body, .int .i64 x.Id, .int .i64 x.Time, .imm 1 (x.Members.map (D.int .i64)) 4, .int .i64 x.Topic, .int .i64 x.Who, .int .i64 x.N]
def TCommand.n (x : TCommand) : D := .agg [.int .u8 x.Kind, .int .i64 x.Message.Id, .imm 1 (x.Message.Groups.map (D.int .i64)) 12, .int .i64 x.Message.Topic, .str x.Message.Key, .str x.Message.Body, .int .i64 x.Id, .int .i64 x.Time, .imm 1 (x.Members.map (D.int .i64)) 12, .int .i64 x.Topic, .int .i64 x.Who, .int .i64 x.N]
theorem pln_TCommand : PlN TCommand.n TCommand.d := ⟨fun _ => rfl, fun _ => rfl, fun _ => by first | rfl | simp [TCommand.n, okM, okML, low3], fun _ => by first | rfl | simp [TCommand.n, okM, okML, new1]⟩
theorem zer (l : List TCommand) : mkML 1 (l.map TCommand.d) = l.map TCommand.n := ze5 1 (fun _ => rfl) l
def Tskeen_clock.d (x : Tskeen_clock) : D := .agg [.int .i64 x.Skeen.Clock, .imm 7 (x.Skeen.Waits.map TWait.d) 4, .imm 2 (x.Skeen.Done.map TStamp.d) 4]
def Tskeen_clock.n (x : Tskeen_clock) : D := .agg [.int .i64 x.Skeen.Clock, .imm 7 (x.Skeen.Waits.map TWait.d) 12, .imm 2 (x.Skeen.Done.map TStamp.d) 12]
theorem zda (l : List Tskeen_clock) : mkML 1 (l.map Tskeen_clock.d) = l.map Tskeen_clock.n := ze5 1 (fun _ => rfl) l
end Go.Proofs
end
section
namespace Go.Proofs
open Go.Tm
structure Torder_step where
 fC : TCommand
 fBefore : TSkeen
 fAfter : TSkeen
 fOut : List TMessage
 deriving Inhabited, DecidableEq
structure Torder_given where
 fTime : Int
 fM : TMessage
 deriving Inhabited, DecidableEq
structure Tcommand_reader where
 fB : List Int
 fOk : Bool
 deriving Inhabited, DecidableEq
def Torder_step.d (x : Torder_step) : D := .agg [.int .u8 x.fC.Kind, .int .i64 x.fC.Message.Id, .imm 1 (x.fC.Message.Groups.map (D.int .i64)) 4, .int .i64 x.fC.Message.Topic, .str x.fC.Message.Key, .str x.fC.Message.Body, .int .i64 x.fC.Id, .int .i64 x.fC.Time, .imm 1 (x.fC.Members.map (D.int .i64)) 4, .int .i64 x.fC.Topic, .int .i64 x.fC.Who, .int .i64 x.fC.N, .int .i64 x.fBefore.Clock, .imm 7 (x.fBefore.Waits.map TWait.d) 4, .imm 2 (x.fBefore.Done.map TStamp.d) 4, .int .i64 x.fAfter.Clock, .imm 7 (x.fAfter.Waits.map TWait.d) 4, .imm 2 (x.fAfter.Done.map TStamp.d) 4, .imm 5 (x.fOut.map TMessage.d) 4]
def Torder_step.n (x : Torder_step) : D := .agg [.int .u8 x.fC.Kind, .int .i64 x.fC.Message.Id, .imm 1 (x.fC.Message.Groups.map (D.int .i64)) 12, .int .i64 x.fC.Message.Topic, .str x.fC.Message.Key, .str x.fC.Message.Body, .int .i64 x.fC.Id, .int .i64 x.fC.Time, .imm 1 (x.fC.Members.map (D.int .i64)) 12, .int .i64 x.fC.Topic, .int .i64 x.fC.Who, .int .i64 x.fC.N, .int .i64 x.fBefore.Clock, .imm 7 (x.fBefore.Waits.map TWait.d) 12, .imm 2 (x.fBefore.Done.map TStamp.d) 12, .int .i64 x.fAfter.Clock, .imm 7 (x.fAfter.Waits.map TWait.d) 12, .imm 2 (x.fAfter.Done.map TStamp.d) 12, .imm 5 (x.fOut.map TMessage.d) 12]
theorem zhf (l : List Torder_step) : mkML 1 (l.map Torder_step.d) = l.map Torder_step.n := ze5 1 (fun _ => rfl) l
def Torder_given.d (x : Torder_given) : D := .agg [.int .i64 x.fTime, .int .i64 x.fM.Id, .imm 1 (x.fM.Groups.map (D.int .i64)) 4, .int .i64 x.fM.Topic, .str x.fM.Key, .str x.fM.Body]
def Torder_given.n (x : Torder_given) : D := .agg [.int .i64 x.fTime, .int .i64 x.fM.Id, .imm 1 (x.fM.Groups.map (D.int .i64)) 12, .int .i64 x.fM.Topic, .str x.fM.Key, .str x.fM.Body]
theorem zj1 : PlN Torder_given.n Torder_given.d := ⟨fun _ => rfl, fun _ => rfl, fun _ => by first | rfl | simp [Torder_given.n, okM, okML, low3], fun _ => by first | rfl | simp [Torder_given.n, okM, okML, new1]⟩
theorem zgt (l : List Torder_given) : mkML 1 (l.map Torder_given.d) = l.map Torder_given.n := ze5 1 (fun _ => rfl) l
def Tcommand_reader.d (x : Tcommand_reader) : D := .agg [.imm 1 (x.fB.map (D.int .u8)) 4, .bool x.fOk]
def Tcommand_reader.n (x : Tcommand_reader) : D := .agg [.imm 1 (x.fB.map (D.int .u8)) 12, .bool x.fOk]
theorem zff (l : List Tcommand_reader) : mkML 1 (l.map Tcommand_reader.d) = l.map Tcommand_reader.n := ze5 1 (fun _ => rfl) l
def zdr (l : List (List UInt8)) : D := .imm 1 (l.map D.str) 4
def nL_str (l : List (List UInt8)) : D := .imm 1 (l.map D.str) 12
theorem zm3 (l : List (List (List UInt8))) : mkML 1 (l.map zdr) = l.map nL_str := ze5 1 (fun _ => rfl) l
def dL_Torder_givend (l : List Torder_given) : D := .imm 6 (l.map Torder_given.d) 4
def nL_Torder_givend (l : List Torder_given) : D := .imm 6 (l.map Torder_given.d) 12
theorem zk2 : PlN nL_Torder_givend dL_Torder_givend := ⟨fun _ => rfl, fun _ => rfl, fun _ => rfl, fun _ => rfl⟩
theorem zf4 (l : List (List Torder_given)) : mkML 1 (l.map dL_Torder_givend) = l.map nL_Torder_givend := ze5 1 (fun _ => rfl) l
def zjz (l : List TStamp) : D := .imm 2 (l.map TStamp.d) 4
def nL_TStampd (l : List TStamp) : D := .imm 2 (l.map TStamp.d) 12
theorem zhz (l : List (List TStamp)) : mkML 1 (l.map zjz) = l.map nL_TStampd := ze5 1 (fun _ => rfl) l
def zhw (l : List TMessage) : D := .imm 5 (l.map TMessage.d) 4
def nL_TMessaged (l : List TMessage) : D := .imm 5 (l.map TMessage.d) 12
theorem zgs (l : List (List TMessage)) : mkML 1 (l.map zhw) = l.map nL_TMessaged := ze5 1 (fun _ => rfl) l
end Go.Proofs
end
section
namespace Go.Proofs
open Go.Tm
def Try.tmL : List (Nat × TI) := [
 (1, { kind := 1, size := 1, offs := [], zero := [.nilfn], el := 0, esz := 0, eby := 0, eagg := false, ik := none, eqs := false, ezero := [] }),
 (2, { kind := 6, size := 1, offs := [], zero := [.int .i64 0], el := 0, esz := 0, eby := 0, eagg := false, ik := some .i64, eqs := false, ezero := [] }),
 (3, { kind := 6, size := 1, offs := [], zero := [.int .i64 0], el := 0, esz := 0, eby := 0, eagg := false, ik := some .i64, eqs := false, ezero := [] }),
 (4, { kind := 8, size := 1, offs := [], zero := [.bool false], el := 0, esz := 0, eby := 0, eagg := false, ik := none, eqs := false, ezero := [] }),
 (5, { kind := 6, size := 1, offs := [], zero := [.int .u8 0], el := 0, esz := 0, eby := 0, eagg := false, ik := some .u8, eqs := false, ezero := [] }),
 (6, { kind := 6, size := 1, offs := [], zero := [.int .u8 0], el := 0, esz := 0, eby := 0, eagg := false, ik := some .u8, eqs := false, ezero := [] }),
 (7, { kind := 2, size := 4, offs := [(0, 1, false), (1, 1, false), (2, 1, false), (3, 1, false)], zero := [.int .i64 0, .int .i64 0, .bool false, .int .u8 0], el := 0, esz := 0, eby := 0, eagg := false, ik := none, eqs := false, ezero := [] }),
 (8, { kind := 2, size := 4, offs := [(0, 1, false), (1, 1, false), (2, 1, false), (3, 1, false)], zero := [.int .i64 0, .int .i64 0, .bool false, .int .u8 0], el := 0, esz := 0, eby := 0, eagg := false, ik := none, eqs := false, ezero := [] }),
 (9, { kind := 5, size := 1, offs := [], zero := [.str []], el := 0, esz := 0, eby := 0, eagg := false, ik := none, eqs := false, ezero := [] }),
 (10, { kind := 5, size := 1, offs := [], zero := [.str []], el := 0, esz := 0, eby := 0, eagg := false, ik := none, eqs := false, ezero := [] }),
 (11, { kind := 5, size := 1, offs := [], zero := [.str []], el := 0, esz := 0, eby := 0, eagg := false, ik := none, eqs := false, ezero := [] }),
 (12, { kind := 6, size := 1, offs := [], zero := [.int .u64 0], el := 0, esz := 0, eby := 0, eagg := false, ik := some .u64, eqs := false, ezero := [] }),
 (13, { kind := 2, size := 2, offs := [(0, 1, false), (1, 1, false)], zero := [.str [], .int .u64 0], el := 0, esz := 0, eby := 0, eagg := false, ik := none, eqs := false, ezero := [] }),
 (14, { kind := 2, size := 2, offs := [(0, 1, false), (1, 1, false)], zero := [.str [], .int .u64 0], el := 0, esz := 0, eby := 0, eagg := false, ik := none, eqs := false, ezero := [] }),
 (15, { kind := 1, size := 1, offs := [], zero := [.nilptr], el := 0, esz := 0, eby := 0, eagg := false, ik := none, eqs := false, ezero := [] }),
 (16, { kind := 1, size := 1, offs := [], zero := [.nilptr], el := 0, esz := 0, eby := 0, eagg := false, ik := none, eqs := false, ezero := [] }),
 (17, { kind := 1, size := 1, offs := [], zero := [.nilptr], el := 0, esz := 0, eby := 0, eagg := false, ik := none, eqs := false, ezero := [] }),
 (18, { kind := 2, size := 1, offs := [(0, 1, false)], zero := [.nilptr], el := 0, esz := 0, eby := 0, eagg := false, ik := none, eqs := false, ezero := [] }),
 (19, { kind := 2, size := 1, offs := [(0, 1, false)], zero := [.nilptr], el := 0, esz := 0, eby := 0, eagg := false, ik := none, eqs := false, ezero := [] }),
 (20, { kind := 7, size := 1, offs := [], zero := [.nilIface], el := 0, esz := 0, eby := 0, eagg := false, ik := none, eqs := false, ezero := [] }),
 (21, { kind := 6, size := 1, offs := [], zero := [.int .i32 0], el := 0, esz := 0, eby := 0, eagg := false, ik := some .i32, eqs := false, ezero := [] }),
 (22, { kind := 3, size := 1, offs := [], zero := [.imm 0 [] 0], el := 36, esz := 1, eby := 24, eagg := false, ik := none, eqs := false, ezero := [.imm 0 [] 0] }),
 (23, { kind := 3, size := 1, offs := [], zero := [.imm 0 [] 0], el := 3, esz := 1, eby := 8, eagg := false, ik := none, eqs := false, ezero := [.int .i64 0] }),
 (24, { kind := 2, size := 5, offs := [(0, 1, false), (1, 1, false), (2, 1, false), (3, 1, false), (4, 1, false)], zero := [.int .i64 0, .imm 0 [] 0, .int .i64 0, .str [], .str []], el := 0, esz := 0, eby := 0, eagg := false, ik := none, eqs := false, ezero := [] }),
 (25, { kind := 2, size := 5, offs := [(0, 1, false), (1, 1, false), (2, 1, false), (3, 1, false), (4, 1, false)], zero := [.int .i64 0, .imm 0 [] 0, .int .i64 0, .str [], .str []], el := 0, esz := 0, eby := 0, eagg := false, ik := none, eqs := false, ezero := [] }),
 (26, { kind := 1, size := 1, offs := [], zero := [.nilfn], el := 0, esz := 0, eby := 0, eagg := false, ik := none, eqs := false, ezero := [] }),
 (27, { kind := 1, size := 1, offs := [], zero := [.nilfn], el := 0, esz := 0, eby := 0, eagg := false, ik := none, eqs := false, ezero := [] }),
 (28, { kind := 6, size := 1, offs := [], zero := [.int .i64 0], el := 0, esz := 0, eby := 0, eagg := false, ik := some .i64, eqs := false, ezero := [] }),
 (30, { kind := 1, size := 1, offs := [], zero := [.nilfn], el := 0, esz := 0, eby := 0, eagg := false, ik := none, eqs := false, ezero := [] }),
 (32, { kind := 1, size := 1, offs := [], zero := [.nilfn], el := 0, esz := 0, eby := 0, eagg := false, ik := none, eqs := false, ezero := [] }),
 (33, { kind := 3, size := 1, offs := [], zero := [.imm 0 [] 0], el := 38, esz := 2, eby := 16, eagg := true, ik := none, eqs := false, ezero := [.int .i64 0, .int .i64 0] }),
 (35, { kind := 1, size := 1, offs := [], zero := [.nilfn], el := 0, esz := 0, eby := 0, eagg := false, ik := none, eqs := false, ezero := [] }),
 (36, { kind := 3, size := 1, offs := [], zero := [.imm 0 [] 0], el := 9, esz := 1, eby := 16, eagg := false, ik := none, eqs := false, ezero := [.str []] }),
 (37, { kind := 2, size := 2, offs := [(0, 1, false), (1, 1, false)], zero := [.int .i64 0, .int .i64 0], el := 0, esz := 0, eby := 0, eagg := false, ik := none, eqs := false, ezero := [] }),
 (38, { kind := 2, size := 2, offs := [(0, 1, false), (1, 1, false)], zero := [.int .i64 0, .int .i64 0], el := 0, esz := 0, eby := 0, eagg := false, ik := none, eqs := true, ezero := [] }),
 (39, { kind := 1, size := 1, offs := [], zero := [.nilfn], el := 0, esz := 0, eby := 0, eagg := false, ik := none, eqs := false, ezero := [] }),
 (40, { kind := 1, size := 1, offs := [], zero := [.nilfn], el := 0, esz := 0, eby := 0, eagg := false, ik := none, eqs := false, ezero := [] }),
 (41, { kind := 3, size := 1, offs := [], zero := [.imm 0 [] 0], el := 33, esz := 1, eby := 24, eagg := false, ik := none, eqs := false, ezero := [.imm 0 [] 0] }),
 (42, { kind := 3, size := 1, offs := [], zero := [.imm 0 [] 0], el := 46, esz := 1, eby := 24, eagg := false, ik := none, eqs := false, ezero := [.imm 0 [] 0] }),
 (43, { kind := 3, size := 1, offs := [], zero := [.imm 0 [] 0], el := 69, esz := 7, eby := 88, eagg := true, ik := none, eqs := false, ezero := [.int .i64 0, .imm 0 [] 0, .int .i64 0, .str [], .str [], .int .i64 0, .bool false] }),
 (44, { kind := 2, size := 3, offs := [(0, 1, false), (1, 1, false), (2, 1, false)], zero := [.int .i64 0, .imm 0 [] 0, .imm 0 [] 0], el := 0, esz := 0, eby := 0, eagg := false, ik := none, eqs := false, ezero := [] }),
 (45, { kind := 2, size := 3, offs := [(0, 1, false), (1, 1, false), (2, 1, false)], zero := [.int .i64 0, .imm 0 [] 0, .imm 0 [] 0], el := 0, esz := 0, eby := 0, eagg := false, ik := none, eqs := false, ezero := [] }),
 (46, { kind := 3, size := 1, offs := [], zero := [.imm 0 [] 0], el := 25, esz := 5, eby := 72, eagg := true, ik := none, eqs := false, ezero := [.int .i64 0, .imm 0 [] 0, .int .i64 0, .str [], .str []] }),
 (48, { kind := 1, size := 1, offs := [], zero := [.nilfn], el := 0, esz := 0, eby := 0, eagg := false, ik := none, eqs := false, ezero := [] }),
 (49, { kind := 1, size := 1, offs := [], zero := [.nilfn], el := 0, esz := 0, eby := 0, eagg := false, ik := none, eqs := false, ezero := [] }),
 (50, { kind := 1, size := 1, offs := [], zero := [.nilfn], el := 0, esz := 0, eby := 0, eagg := false, ik := none, eqs := false, ezero := [] }),
 (51, { kind := 1, size := 1, offs := [], zero := [.nilfn], el := 0, esz := 0, eby := 0, eagg := false, ik := none, eqs := false, ezero := [] }),
 (52, { kind := 1, size := 1, offs := [], zero := [.nilfn], el := 0, esz := 0, eby := 0, eagg := false, ik := none, eqs := false, ezero := [] }),
 (53, { kind := 3, size := 1, offs := [], zero := [.imm 0 [] 0], el := 72, esz := 1, eby := 24, eagg := false, ik := none, eqs := false, ezero := [.imm 0 [] 0] }),
 (54, { kind := 3, size := 1, offs := [], zero := [.imm 0 [] 0], el := 72, esz := 1, eby := 24, eagg := false, ik := none, eqs := false, ezero := [.imm 0 [] 0] }),
 (56, { kind := 1, size := 1, offs := [], zero := [.nilfn], el := 0, esz := 0, eby := 0, eagg := false, ik := none, eqs := false, ezero := [] }),
 (57, { kind := 1, size := 1, offs := [], zero := [.nilfn], el := 0, esz := 0, eby := 0, eagg := false, ik := none, eqs := false, ezero := [] }),
 (59, { kind := 1, size := 1, offs := [], zero := [.nilfn], el := 0, esz := 0, eby := 0, eagg := false, ik := none, eqs := false, ezero := [] }),
 (61, { kind := 1, size := 1, offs := [], zero := [.nilfn], el := 0, esz := 0, eby := 0, eagg := false, ik := none, eqs := false, ezero := [] }),
 (62, { kind := 2, size := 12, offs := [(0, 1, false), (1, 5, true), (6, 1, false), (7, 1, false), (8, 1, false), (9, 1, false), (10, 1, false), (11, 1, false)], zero := [.int .u8 0, .int .i64 0, .imm 0 [] 0, .int .i64 0, .str [], .str [], .int .i64 0, .int .i64 0, .imm 0 [] 0, .int .i64 0, .int .i64 0, .int .i64 0], el := 0, esz := 0, eby := 0, eagg := false, ik := none, eqs := false, ezero := [] }),
 (63, { kind := 2, size := 12, offs := [(0, 1, false), (1, 5, true), (6, 1, false), (7, 1, false), (8, 1, false), (9, 1, false), (10, 1, false), (11, 1, false)], zero := [.int .u8 0, .int .i64 0, .imm 0 [] 0, .int .i64 0, .str [], .str [], .int .i64 0, .int .i64 0, .imm 0 [] 0, .int .i64 0, .int .i64 0, .int .i64 0], el := 0, esz := 0, eby := 0, eagg := false, ik := none, eqs := false, ezero := [] }),
 (64, { kind := 2, size := 19, offs := [(0, 12, true), (12, 3, true), (15, 3, true), (18, 1, false)], zero := [.int .u8 0, .int .i64 0, .imm 0 [] 0, .int .i64 0, .str [], .str [], .int .i64 0, .int .i64 0, .imm 0 [] 0, .int .i64 0, .int .i64 0, .int .i64 0, .int .i64 0, .imm 0 [] 0, .imm 0 [] 0, .int .i64 0, .imm 0 [] 0, .imm 0 [] 0, .imm 0 [] 0], el := 0, esz := 0, eby := 0, eagg := false, ik := none, eqs := false, ezero := [] }),
 (65, { kind := 2, size := 19, offs := [(0, 12, true), (12, 3, true), (15, 3, true), (18, 1, false)], zero := [.int .u8 0, .int .i64 0, .imm 0 [] 0, .int .i64 0, .str [], .str [], .int .i64 0, .int .i64 0, .imm 0 [] 0, .int .i64 0, .int .i64 0, .int .i64 0, .int .i64 0, .imm 0 [] 0, .imm 0 [] 0, .int .i64 0, .imm 0 [] 0, .imm 0 [] 0, .imm 0 [] 0], el := 0, esz := 0, eby := 0, eagg := false, ik := none, eqs := false, ezero := [] }),
 (66, { kind := 1, size := 1, offs := [], zero := [.nilfn], el := 0, esz := 0, eby := 0, eagg := false, ik := none, eqs := false, ezero := [] }),
 (67, { kind := 1, size := 1, offs := [], zero := [.nilfn], el := 0, esz := 0, eby := 0, eagg := false, ik := none, eqs := false, ezero := [] }),
 (68, { kind := 2, size := 7, offs := [(0, 5, true), (5, 1, false), (6, 1, false)], zero := [.int .i64 0, .imm 0 [] 0, .int .i64 0, .str [], .str [], .int .i64 0, .bool false], el := 0, esz := 0, eby := 0, eagg := false, ik := none, eqs := false, ezero := [] }),
 (69, { kind := 2, size := 7, offs := [(0, 5, true), (5, 1, false), (6, 1, false)], zero := [.int .i64 0, .imm 0 [] 0, .int .i64 0, .str [], .str [], .int .i64 0, .bool false], el := 0, esz := 0, eby := 0, eagg := false, ik := none, eqs := false, ezero := [] }),
 (70, { kind := 1, size := 1, offs := [], zero := [.nilfn], el := 0, esz := 0, eby := 0, eagg := false, ik := none, eqs := false, ezero := [] }),
 (71, { kind := 1, size := 1, offs := [], zero := [.nilfn], el := 0, esz := 0, eby := 0, eagg := false, ik := none, eqs := false, ezero := [] }),
 (72, { kind := 3, size := 1, offs := [], zero := [.imm 0 [] 0], el := 76, esz := 6, eby := 80, eagg := true, ik := none, eqs := false, ezero := [.int .i64 0, .int .i64 0, .imm 0 [] 0, .int .i64 0, .str [], .str []] }),
 (74, { kind := 1, size := 1, offs := [], zero := [.nilfn], el := 0, esz := 0, eby := 0, eagg := false, ik := none, eqs := false, ezero := [] }),
 (75, { kind := 2, size := 6, offs := [(0, 1, false), (1, 5, true)], zero := [.int .i64 0, .int .i64 0, .imm 0 [] 0, .int .i64 0, .str [], .str []], el := 0, esz := 0, eby := 0, eagg := false, ik := none, eqs := false, ezero := [] }),
 (76, { kind := 2, size := 6, offs := [(0, 1, false), (1, 5, true)], zero := [.int .i64 0, .int .i64 0, .imm 0 [] 0, .int .i64 0, .str [], .str []], el := 0, esz := 0, eby := 0, eagg := false, ik := none, eqs := false, ezero := [] }),
 (78, { kind := 1, size := 1, offs := [], zero := [.nilfn], el := 0, esz := 0, eby := 0, eagg := false, ik := none, eqs := false, ezero := [] }),
 (79, { kind := 1, size := 1, offs := [], zero := [.nilfn], el := 0, esz := 0, eby := 0, eagg := false, ik := none, eqs := false, ezero := [] }),
 (80, { kind := 9, size := 1, offs := [], zero := [.nilmap], el := 3, esz := 1, eby := 0, eagg := false, ik := none, eqs := false, ezero := [.int .i64 0] }),
 (81, { kind := 1, size := 1, offs := [], zero := [.nilfn], el := 0, esz := 0, eby := 0, eagg := false, ik := none, eqs := false, ezero := [] }),
 (82, { kind := 1, size := 1, offs := [], zero := [.nilfn], el := 0, esz := 0, eby := 0, eagg := false, ik := none, eqs := false, ezero := [] }),
 (83, { kind := 1, size := 1, offs := [], zero := [.nilfn], el := 0, esz := 0, eby := 0, eagg := false, ik := none, eqs := false, ezero := [] }),
 (84, { kind := 1, size := 1, offs := [], zero := [.nilfn], el := 0, esz := 0, eby := 0, eagg := false, ik := none, eqs := false, ezero := [] }),
 (85, { kind := 1, size := 1, offs := [], zero := [.nilfn], el := 0, esz := 0, eby := 0, eagg := false, ik := none, eqs := false, ezero := [] }),
 (86, { kind := 1, size := 1, offs := [], zero := [.nilfn], el := 0, esz := 0, eby := 0, eagg := false, ik := none, eqs := false, ezero := [] }),
 (87, { kind := 1, size := 1, offs := [], zero := [.nilfn], el := 0, esz := 0, eby := 0, eagg := false, ik := none, eqs := false, ezero := [] }),
 (88, { kind := 1, size := 1, offs := [], zero := [.nilfn], el := 0, esz := 0, eby := 0, eagg := false, ik := none, eqs := false, ezero := [] }),
 (89, { kind := 9, size := 1, offs := [], zero := [.nilmap], el := 3, esz := 5, eby := 0, eagg := true, ik := none, eqs := false, ezero := [.int .i64 0, .imm 0 [] 0, .int .i64 0, .str [], .str []] }),
 (90, { kind := 1, size := 1, offs := [], zero := [.nilfn], el := 0, esz := 0, eby := 0, eagg := false, ik := none, eqs := false, ezero := [] }),
 (92, { kind := 3, size := 1, offs := [], zero := [.imm 0 [] 0], el := 63, esz := 12, eby := 144, eagg := true, ik := none, eqs := false, ezero := [.int .u8 0, .int .i64 0, .imm 0 [] 0, .int .i64 0, .str [], .str [], .int .i64 0, .int .i64 0, .imm 0 [] 0, .int .i64 0, .int .i64 0, .int .i64 0] }),
 (94, { kind := 1, size := 1, offs := [], zero := [.nilfn], el := 0, esz := 0, eby := 0, eagg := false, ik := none, eqs := false, ezero := [] }),
 (95, { kind := 1, size := 1, offs := [], zero := [.nilfn], el := 0, esz := 0, eby := 0, eagg := false, ik := none, eqs := false, ezero := [] }),
 (96, { kind := 1, size := 1, offs := [], zero := [.nilfn], el := 0, esz := 0, eby := 0, eagg := false, ik := none, eqs := false, ezero := [] }),
 (97, { kind := 1, size := 1, offs := [], zero := [.nilfn], el := 0, esz := 0, eby := 0, eagg := false, ik := none, eqs := false, ezero := [] }),
 (98, { kind := 1, size := 1, offs := [], zero := [.nilfn], el := 0, esz := 0, eby := 0, eagg := false, ik := none, eqs := false, ezero := [] }),
 (99, { kind := 1, size := 1, offs := [], zero := [.nilfn], el := 0, esz := 0, eby := 0, eagg := false, ik := none, eqs := false, ezero := [] }),
 (100, { kind := 1, size := 1, offs := [], zero := [.nilfn], el := 0, esz := 0, eby := 0, eagg := false, ik := none, eqs := false, ezero := [] }),
 (101, { kind := 1, size := 1, offs := [], zero := [.nilfn], el := 0, esz := 0, eby := 0, eagg := false, ik := none, eqs := false, ezero := [] }),
 (102, { kind := 1, size := 1, offs := [], zero := [.nilfn], el := 0, esz := 0, eby := 0, eagg := false, ik := none, eqs := false, ezero := [] }),
 (103, { kind := 1, size := 1, offs := [], zero := [.nilfn], el := 0, esz := 0, eby := 0, eagg := false, ik := none, eqs := false, ezero := [] }),
 (104, { kind := 1, size := 1, offs := [], zero := [.nilfn], el := 0, esz := 0, eby := 0, eagg := false, ik := none, eqs := false, ezero := [] }),
 (105, { kind := 1, size := 1, offs := [], zero := [.nilfn], el := 0, esz := 0, eby := 0, eagg := false, ik := none, eqs := false, ezero := [] }),
 (107, { kind := 1, size := 1, offs := [], zero := [.nilfn], el := 0, esz := 0, eby := 0, eagg := false, ik := none, eqs := false, ezero := [] }),
 (108, { kind := 1, size := 1, offs := [], zero := [.nilfn], el := 0, esz := 0, eby := 0, eagg := false, ik := none, eqs := false, ezero := [] }),
 (109, { kind := 1, size := 1, offs := [], zero := [.nilptr], el := 0, esz := 0, eby := 0, eagg := false, ik := none, eqs := false, ezero := [] }),
 (110, { kind := 2, size := 3, offs := [(0, 3, true)], zero := [.int .i64 0, .imm 0 [] 0, .imm 0 [] 0], el := 0, esz := 0, eby := 0, eagg := false, ik := none, eqs := false, ezero := [] }),
 (111, { kind := 2, size := 3, offs := [(0, 3, true)], zero := [.int .i64 0, .imm 0 [] 0, .imm 0 [] 0], el := 0, esz := 0, eby := 0, eagg := false, ik := none, eqs := false, ezero := [] }),
 (112, { kind := 1, size := 1, offs := [], zero := [.nilfn], el := 0, esz := 0, eby := 0, eagg := false, ik := none, eqs := false, ezero := [] }),
 (113, { kind := 1, size := 1, offs := [], zero := [.nilfn], el := 0, esz := 0, eby := 0, eagg := false, ik := none, eqs := false, ezero := [] }),
 (114, { kind := 1, size := 1, offs := [], zero := [.nilfn], el := 0, esz := 0, eby := 0, eagg := false, ik := none, eqs := false, ezero := [] }),
 (115, { kind := 1, size := 1, offs := [], zero := [.nilfn], el := 0, esz := 0, eby := 0, eagg := false, ik := none, eqs := false, ezero := [] }),
 (116, { kind := 1, size := 1, offs := [], zero := [.nilfn], el := 0, esz := 0, eby := 0, eagg := false, ik := none, eqs := false, ezero := [] }),
 (117, { kind := 1, size := 1, offs := [], zero := [.nilfn], el := 0, esz := 0, eby := 0, eagg := false, ik := none, eqs := false, ezero := [] }),
 (119, { kind := 1, size := 1, offs := [], zero := [.nilfn], el := 0, esz := 0, eby := 0, eagg := false, ik := none, eqs := false, ezero := [] }),
 (120, { kind := 1, size := 1, offs := [], zero := [.nilfn], el := 0, esz := 0, eby := 0, eagg := false, ik := none, eqs := false, ezero := [] }),
 (121, { kind := 3, size := 1, offs := [], zero := [.imm 0 [] 0], el := 5, esz := 1, eby := 1, eagg := false, ik := none, eqs := false, ezero := [.int .u8 0] }),
 (123, { kind := 1, size := 1, offs := [], zero := [.nilfn], el := 0, esz := 0, eby := 0, eagg := false, ik := none, eqs := false, ezero := [] }),
 (124, { kind := 1, size := 1, offs := [], zero := [.nilfn], el := 0, esz := 0, eby := 0, eagg := false, ik := none, eqs := false, ezero := [] }),
 (125, { kind := 1, size := 1, offs := [], zero := [.nilfn], el := 0, esz := 0, eby := 0, eagg := false, ik := none, eqs := false, ezero := [] }),
 (126, { kind := 1, size := 1, offs := [], zero := [.nilfn], el := 0, esz := 0, eby := 0, eagg := false, ik := none, eqs := false, ezero := [] }),
 (127, { kind := 1, size := 1, offs := [], zero := [.nilfn], el := 0, esz := 0, eby := 0, eagg := false, ik := none, eqs := false, ezero := [] }),
 (128, { kind := 1, size := 1, offs := [], zero := [.nilfn], el := 0, esz := 0, eby := 0, eagg := false, ik := none, eqs := false, ezero := [] }),
 (129, { kind := 1, size := 1, offs := [], zero := [.nilptr], el := 0, esz := 0, eby := 0, eagg := false, ik := none, eqs := false, ezero := [] }),
 (130, { kind := 2, size := 2, offs := [(0, 1, false), (1, 1, false)], zero := [.imm 0 [] 0, .bool false], el := 0, esz := 0, eby := 0, eagg := false, ik := none, eqs := false, ezero := [] }),
 (131, { kind := 2, size := 2, offs := [(0, 1, false), (1, 1, false)], zero := [.imm 0 [] 0, .bool false], el := 0, esz := 0, eby := 0, eagg := false, ik := none, eqs := false, ezero := [] }),
 (132, { kind := 1, size := 1, offs := [], zero := [.nilfn], el := 0, esz := 0, eby := 0, eagg := false, ik := none, eqs := false, ezero := [] }),
 (133, { kind := 1, size := 1, offs := [], zero := [.nilfn], el := 0, esz := 0, eby := 0, eagg := false, ik := none, eqs := false, ezero := [] }),
 (134, { kind := 1, size := 1, offs := [], zero := [.nilfn], el := 0, esz := 0, eby := 0, eagg := false, ik := none, eqs := false, ezero := [] }),
 (135, { kind := 1, size := 1, offs := [], zero := [.nilfn], el := 0, esz := 0, eby := 0, eagg := false, ik := none, eqs := false, ezero := [] }),
 (136, { kind := 1, size := 1, offs := [], zero := [.nilfn], el := 0, esz := 0, eby := 0, eagg := false, ik := none, eqs := false, ezero := [] }),
 (137, { kind := 1, size := 1, offs := [], zero := [.nilfn], el := 0, esz := 0, eby := 0, eagg := false, ik := none, eqs := false, ezero := [] }),
 (138, { kind := 1, size := 1, offs := [], zero := [.nilfn], el := 0, esz := 0, eby := 0, eagg := false, ik := none, eqs := false, ezero := [] }),
 (139, { kind := 1, size := 1, offs := [], zero := [.nilfn], el := 0, esz := 0, eby := 0, eagg := false, ik := none, eqs := false, ezero := [] }),
 (140, { kind := 1, size := 1, offs := [], zero := [.nilfn], el := 0, esz := 0, eby := 0, eagg := false, ik := none, eqs := false, ezero := [] }),
 (141, { kind := 1, size := 1, offs := [], zero := [.nilfn], el := 0, esz := 0, eby := 0, eagg := false, ik := none, eqs := false, ezero := [] }),
 (142, { kind := 1, size := 1, offs := [], zero := [.nilfn], el := 0, esz := 0, eby := 0, eagg := false, ik := none, eqs := false, ezero := [] }),
 (143, { kind := 1, size := 1, offs := [], zero := [.nilfn], el := 0, esz := 0, eby := 0, eagg := false, ik := none, eqs := false, ezero := [] }),
 (144, { kind := 1, size := 1, offs := [], zero := [.nilfn], el := 0, esz := 0, eby := 0, eagg := false, ik := none, eqs := false, ezero := [] }),
 (145, { kind := 1, size := 1, offs := [], zero := [.nilfn], el := 0, esz := 0, eby := 0, eagg := false, ik := none, eqs := false, ezero := [] }),
 (146, { kind := 1, size := 1, offs := [], zero := [.nilfn], el := 0, esz := 0, eby := 0, eagg := false, ik := none, eqs := false, ezero := [] }),
 (147, { kind := 1, size := 1, offs := [], zero := [.nilfn], el := 0, esz := 0, eby := 0, eagg := false, ik := none, eqs := false, ezero := [] }),
 (148, { kind := 1, size := 1, offs := [], zero := [.nilfn], el := 0, esz := 0, eby := 0, eagg := false, ik := none, eqs := false, ezero := [] }),
 (149, { kind := 1, size := 1, offs := [], zero := [.nilfn], el := 0, esz := 0, eby := 0, eagg := false, ik := none, eqs := false, ezero := [] }),
 (150, { kind := 1, size := 1, offs := [], zero := [.nilfn], el := 0, esz := 0, eby := 0, eagg := false, ik := none, eqs := false, ezero := [] }),
 (151, { kind := 1, size := 1, offs := [], zero := [.nilfn], el := 0, esz := 0, eby := 0, eagg := false, ik := none, eqs := false, ezero := [] }),
 (152, { kind := 1, size := 1, offs := [], zero := [.nilfn], el := 0, esz := 0, eby := 0, eagg := false, ik := none, eqs := false, ezero := [] }),
 (153, { kind := 6, size := 1, offs := [], zero := [.int .u64 0], el := 0, esz := 0, eby := 0, eagg := false, ik := some .u64, eqs := false, ezero := [] }),
 (155, { kind := 1, size := 1, offs := [], zero := [.nilfn], el := 0, esz := 0, eby := 0, eagg := false, ik := none, eqs := false, ezero := [] }),
 (156, { kind := 1, size := 1, offs := [], zero := [.nilfn], el := 0, esz := 0, eby := 0, eagg := false, ik := none, eqs := false, ezero := [] }),
 (158, { kind := 1, size := 1, offs := [], zero := [.nilfn], el := 0, esz := 0, eby := 0, eagg := false, ik := none, eqs := false, ezero := [] }),
 (160, { kind := 1, size := 1, offs := [], zero := [.nilfn], el := 0, esz := 0, eby := 0, eagg := false, ik := none, eqs := false, ezero := [] }),
 (161, { kind := 1, size := 1, offs := [], zero := [.nilfn], el := 0, esz := 0, eby := 0, eagg := false, ik := none, eqs := false, ezero := [] }),
 (162, { kind := 1, size := 1, offs := [], zero := [.nilfn], el := 0, esz := 0, eby := 0, eagg := false, ik := none, eqs := false, ezero := [] }),
 (163, { kind := 2, size := 4, offs := [(0, 1, false), (1, 1, false), (2, 1, false), (3, 1, false)], zero := [.nilptr, .nilptr, .nilptr, .str []], el := 0, esz := 0, eby := 0, eagg := false, ik := none, eqs := false, ezero := [] }),
 (164, { kind := 2, size := 4, offs := [(0, 1, false), (1, 1, false), (2, 1, false), (3, 1, false)], zero := [.nilptr, .nilptr, .nilptr, .str []], el := 0, esz := 0, eby := 0, eagg := false, ik := none, eqs := false, ezero := [] }),
 (165, { kind := 4, size := 0, offs := [], zero := [], el := 0, esz := 0, eby := 0, eagg := false, ik := none, eqs := false, ezero := [] }),
 (168, { kind := 6, size := 1, offs := [], zero := [.int .u32 0], el := 0, esz := 0, eby := 0, eagg := false, ik := some .u32, eqs := false, ezero := [] }),
 (169, { kind := 6, size := 1, offs := [], zero := [.int .u8 0], el := 0, esz := 0, eby := 0, eagg := false, ik := some .u8, eqs := false, ezero := [] }),
 (170, { kind := 6, size := 1, offs := [], zero := [.int .u8 0], el := 0, esz := 0, eby := 0, eagg := false, ik := some .u8, eqs := false, ezero := [] }),
 (171, { kind := 1, size := 1, offs := [], zero := [.nilfn], el := 0, esz := 0, eby := 0, eagg := false, ik := none, eqs := false, ezero := [] }),
 (172, { kind := 1, size := 1, offs := [], zero := [.nilptr], el := 0, esz := 0, eby := 0, eagg := false, ik := none, eqs := false, ezero := [] }),
 (173, { kind := 6, size := 1, offs := [], zero := [.int .i32 0], el := 0, esz := 0, eby := 0, eagg := false, ik := some .i32, eqs := false, ezero := [] }),
 (174, { kind := 6, size := 1, offs := [], zero := [.int .i32 0], el := 0, esz := 0, eby := 0, eagg := false, ik := some .i32, eqs := false, ezero := [] }),
 (175, { kind := 2, size := 11, offs := [(0, 1, false), (1, 1, false), (2, 1, false), (3, 1, false), (4, 1, false), (5, 1, false), (6, 1, false), (7, 1, false), (8, 1, false), (9, 1, false), (10, 1, false)], zero := [.int .u64 0, .int .u64 0, .int .u32 0, .int .u8 0, .int .u8 0, .int .u8 0, .int .u8 0, .nilfn, .nilptr, .int .i32 0, .int .i32 0], el := 0, esz := 0, eby := 0, eagg := false, ik := none, eqs := false, ezero := [] }),
 (176, { kind := 2, size := 11, offs := [(0, 1, false), (1, 1, false), (2, 1, false), (3, 1, false), (4, 1, false), (5, 1, false), (6, 1, false), (7, 1, false), (8, 1, false), (9, 1, false), (10, 1, false)], zero := [.int .u64 0, .int .u64 0, .int .u32 0, .int .u8 0, .int .u8 0, .int .u8 0, .int .u8 0, .nilfn, .nilptr, .int .i32 0, .int .i32 0], el := 0, esz := 0, eby := 0, eagg := false, ik := none, eqs := false, ezero := [] })]
def Try.tm (t : Nat) : TI := match getL Try.tmL t with | some x => x | none => default
theorem Try.tmAll : (Try.tmL.all fun x => tiChk Try.prog x.1 x.2 && (!x.2.eqs || eqsChk Try.prog x.1 x.2)) = true := by kernel_rfl
theorem Try.tmOk : TabOk Try.prog Try.tm := tabOk_of Try.tmAll
theorem Try.tmMixed : Try.prog.follows .mixedOrders = true := by kernel_rfl
end Go.Proofs
end
section
namespace Go.Proofs
open Go.Tm
theorem Try.tm_1 : Try.tm 1 = { kind := 1, size := 1, offs := [], zero := [.nilfn], el := 0, esz := 0, eby := 0, eagg := false, ik := none, eqs := false, ezero := [] } := by kernel_rfl
theorem Try.tm_2 : Try.tm 2 = { kind := 6, size := 1, offs := [], zero := [.int .i64 0], el := 0, esz := 0, eby := 0, eagg := false, ik := some .i64, eqs := false, ezero := [] } := by kernel_rfl
theorem Try.tm_3 : Try.tm 3 = { kind := 6, size := 1, offs := [], zero := [.int .i64 0], el := 0, esz := 0, eby := 0, eagg := false, ik := some .i64, eqs := false, ezero := [] } := by kernel_rfl
theorem Try.tm_4 : Try.tm 4 = { kind := 8, size := 1, offs := [], zero := [.bool false], el := 0, esz := 0, eby := 0, eagg := false, ik := none, eqs := false, ezero := [] } := by kernel_rfl
theorem Try.tm_5 : Try.tm 5 = { kind := 6, size := 1, offs := [], zero := [.int .u8 0], el := 0, esz := 0, eby := 0, eagg := false, ik := some .u8, eqs := false, ezero := [] } := by kernel_rfl
theorem Try.tm_6 : Try.tm 6 = { kind := 6, size := 1, offs := [], zero := [.int .u8 0], el := 0, esz := 0, eby := 0, eagg := false, ik := some .u8, eqs := false, ezero := [] } := by kernel_rfl
theorem Try.tm_7 : Try.tm 7 = { kind := 2, size := 4, offs := [(0, 1, false), (1, 1, false), (2, 1, false), (3, 1, false)], zero := [.int .i64 0, .int .i64 0, .bool false, .int .u8 0], el := 0, esz := 0, eby := 0, eagg := false, ik := none, eqs := false, ezero := [] } := by kernel_rfl
theorem Try.tm_8 : Try.tm 8 = { kind := 2, size := 4, offs := [(0, 1, false), (1, 1, false), (2, 1, false), (3, 1, false)], zero := [.int .i64 0, .int .i64 0, .bool false, .int .u8 0], el := 0, esz := 0, eby := 0, eagg := false, ik := none, eqs := false, ezero := [] } := by kernel_rfl
theorem Try.tm_9 : Try.tm 9 = { kind := 5, size := 1, offs := [], zero := [.str []], el := 0, esz := 0, eby := 0, eagg := false, ik := none, eqs := false, ezero := [] } := by kernel_rfl
theorem Try.tm_10 : Try.tm 10 = { kind := 5, size := 1, offs := [], zero := [.str []], el := 0, esz := 0, eby := 0, eagg := false, ik := none, eqs := false, ezero := [] } := by kernel_rfl
theorem Try.tm_11 : Try.tm 11 = { kind := 5, size := 1, offs := [], zero := [.str []], el := 0, esz := 0, eby := 0, eagg := false, ik := none, eqs := false, ezero := [] } := by kernel_rfl
theorem Try.tm_12 : Try.tm 12 = { kind := 6, size := 1, offs := [], zero := [.int .u64 0], el := 0, esz := 0, eby := 0, eagg := false, ik := some .u64, eqs := false, ezero := [] } := by kernel_rfl
theorem Try.tm_13 : Try.tm 13 = { kind := 2, size := 2, offs := [(0, 1, false), (1, 1, false)], zero := [.str [], .int .u64 0], el := 0, esz := 0, eby := 0, eagg := false, ik := none, eqs := false, ezero := [] } := by kernel_rfl
theorem Try.tm_14 : Try.tm 14 = { kind := 2, size := 2, offs := [(0, 1, false), (1, 1, false)], zero := [.str [], .int .u64 0], el := 0, esz := 0, eby := 0, eagg := false, ik := none, eqs := false, ezero := [] } := by kernel_rfl
theorem Try.tm_15 : Try.tm 15 = { kind := 1, size := 1, offs := [], zero := [.nilptr], el := 0, esz := 0, eby := 0, eagg := false, ik := none, eqs := false, ezero := [] } := by kernel_rfl
theorem Try.tm_16 : Try.tm 16 = { kind := 1, size := 1, offs := [], zero := [.nilptr], el := 0, esz := 0, eby := 0, eagg := false, ik := none, eqs := false, ezero := [] } := by kernel_rfl
theorem Try.tm_17 : Try.tm 17 = { kind := 1, size := 1, offs := [], zero := [.nilptr], el := 0, esz := 0, eby := 0, eagg := false, ik := none, eqs := false, ezero := [] } := by kernel_rfl
theorem Try.tm_18 : Try.tm 18 = { kind := 2, size := 1, offs := [(0, 1, false)], zero := [.nilptr], el := 0, esz := 0, eby := 0, eagg := false, ik := none, eqs := false, ezero := [] } := by kernel_rfl
theorem Try.tm_19 : Try.tm 19 = { kind := 2, size := 1, offs := [(0, 1, false)], zero := [.nilptr], el := 0, esz := 0, eby := 0, eagg := false, ik := none, eqs := false, ezero := [] } := by kernel_rfl
theorem Try.tm_20 : Try.tm 20 = { kind := 7, size := 1, offs := [], zero := [.nilIface], el := 0, esz := 0, eby := 0, eagg := false, ik := none, eqs := false, ezero := [] } := by kernel_rfl
theorem Try.tm_21 : Try.tm 21 = { kind := 6, size := 1, offs := [], zero := [.int .i32 0], el := 0, esz := 0, eby := 0, eagg := false, ik := some .i32, eqs := false, ezero := [] } := by kernel_rfl
theorem Try.tm_22 : Try.tm 22 = { kind := 3, size := 1, offs := [], zero := [.imm 0 [] 0], el := 36, esz := 1, eby := 24, eagg := false, ik := none, eqs := false, ezero := [.imm 0 [] 0] } := by kernel_rfl
theorem Try.tm_23 : Try.tm 23 = { kind := 3, size := 1, offs := [], zero := [.imm 0 [] 0], el := 3, esz := 1, eby := 8, eagg := false, ik := none, eqs := false, ezero := [.int .i64 0] } := by kernel_rfl
theorem Try.tm_24 : Try.tm 24 = { kind := 2, size := 5, offs := [(0, 1, false), (1, 1, false), (2, 1, false), (3, 1, false), (4, 1, false)], zero := [.int .i64 0, .imm 0 [] 0, .int .i64 0, .str [], .str []], el := 0, esz := 0, eby := 0, eagg := false, ik := none, eqs := false, ezero := [] } := by kernel_rfl
theorem Try.tm_25 : Try.tm 25 = { kind := 2, size := 5, offs := [(0, 1, false), (1, 1, false), (2, 1, false), (3, 1, false), (4, 1, false)], zero := [.int .i64 0, .imm 0 [] 0, .int .i64 0, .str [], .str []], el := 0, esz := 0, eby := 0, eagg := false, ik := none, eqs := false, ezero := [] } := by kernel_rfl
theorem Try.tm_26 : Try.tm 26 = { kind := 1, size := 1, offs := [], zero := [.nilfn], el := 0, esz := 0, eby := 0, eagg := false, ik := none, eqs := false, ezero := [] } := by kernel_rfl
theorem Try.tm_27 : Try.tm 27 = { kind := 1, size := 1, offs := [], zero := [.nilfn], el := 0, esz := 0, eby := 0, eagg := false, ik := none, eqs := false, ezero := [] } := by kernel_rfl
theorem Try.tm_28 : Try.tm 28 = { kind := 6, size := 1, offs := [], zero := [.int .i64 0], el := 0, esz := 0, eby := 0, eagg := false, ik := some .i64, eqs := false, ezero := [] } := by kernel_rfl
theorem Try.tm_30 : Try.tm 30 = { kind := 1, size := 1, offs := [], zero := [.nilfn], el := 0, esz := 0, eby := 0, eagg := false, ik := none, eqs := false, ezero := [] } := by kernel_rfl
theorem Try.tm_32 : Try.tm 32 = { kind := 1, size := 1, offs := [], zero := [.nilfn], el := 0, esz := 0, eby := 0, eagg := false, ik := none, eqs := false, ezero := [] } := by kernel_rfl
theorem Try.tm_33 : Try.tm 33 = { kind := 3, size := 1, offs := [], zero := [.imm 0 [] 0], el := 38, esz := 2, eby := 16, eagg := true, ik := none, eqs := false, ezero := [.int .i64 0, .int .i64 0] } := by kernel_rfl
theorem Try.tm_35 : Try.tm 35 = { kind := 1, size := 1, offs := [], zero := [.nilfn], el := 0, esz := 0, eby := 0, eagg := false, ik := none, eqs := false, ezero := [] } := by kernel_rfl
theorem Try.tm_36 : Try.tm 36 = { kind := 3, size := 1, offs := [], zero := [.imm 0 [] 0], el := 9, esz := 1, eby := 16, eagg := false, ik := none, eqs := false, ezero := [.str []] } := by kernel_rfl
theorem Try.tm_37 : Try.tm 37 = { kind := 2, size := 2, offs := [(0, 1, false), (1, 1, false)], zero := [.int .i64 0, .int .i64 0], el := 0, esz := 0, eby := 0, eagg := false, ik := none, eqs := false, ezero := [] } := by kernel_rfl
theorem Try.tm_38 : Try.tm 38 = { kind := 2, size := 2, offs := [(0, 1, false), (1, 1, false)], zero := [.int .i64 0, .int .i64 0], el := 0, esz := 0, eby := 0, eagg := false, ik := none, eqs := true, ezero := [] } := by kernel_rfl
theorem Try.tm_39 : Try.tm 39 = { kind := 1, size := 1, offs := [], zero := [.nilfn], el := 0, esz := 0, eby := 0, eagg := false, ik := none, eqs := false, ezero := [] } := by kernel_rfl
theorem Try.tm_40 : Try.tm 40 = { kind := 1, size := 1, offs := [], zero := [.nilfn], el := 0, esz := 0, eby := 0, eagg := false, ik := none, eqs := false, ezero := [] } := by kernel_rfl
theorem Try.tm_41 : Try.tm 41 = { kind := 3, size := 1, offs := [], zero := [.imm 0 [] 0], el := 33, esz := 1, eby := 24, eagg := false, ik := none, eqs := false, ezero := [.imm 0 [] 0] } := by kernel_rfl
theorem Try.tm_42 : Try.tm 42 = { kind := 3, size := 1, offs := [], zero := [.imm 0 [] 0], el := 46, esz := 1, eby := 24, eagg := false, ik := none, eqs := false, ezero := [.imm 0 [] 0] } := by kernel_rfl
theorem Try.tm_43 : Try.tm 43 = { kind := 3, size := 1, offs := [], zero := [.imm 0 [] 0], el := 69, esz := 7, eby := 88, eagg := true, ik := none, eqs := false, ezero := [.int .i64 0, .imm 0 [] 0, .int .i64 0, .str [], .str [], .int .i64 0, .bool false] } := by kernel_rfl
theorem Try.tm_44 : Try.tm 44 = { kind := 2, size := 3, offs := [(0, 1, false), (1, 1, false), (2, 1, false)], zero := [.int .i64 0, .imm 0 [] 0, .imm 0 [] 0], el := 0, esz := 0, eby := 0, eagg := false, ik := none, eqs := false, ezero := [] } := by kernel_rfl
theorem Try.tm_45 : Try.tm 45 = { kind := 2, size := 3, offs := [(0, 1, false), (1, 1, false), (2, 1, false)], zero := [.int .i64 0, .imm 0 [] 0, .imm 0 [] 0], el := 0, esz := 0, eby := 0, eagg := false, ik := none, eqs := false, ezero := [] } := by kernel_rfl
theorem Try.tm_46 : Try.tm 46 = { kind := 3, size := 1, offs := [], zero := [.imm 0 [] 0], el := 25, esz := 5, eby := 72, eagg := true, ik := none, eqs := false, ezero := [.int .i64 0, .imm 0 [] 0, .int .i64 0, .str [], .str []] } := by kernel_rfl
theorem Try.tm_48 : Try.tm 48 = { kind := 1, size := 1, offs := [], zero := [.nilfn], el := 0, esz := 0, eby := 0, eagg := false, ik := none, eqs := false, ezero := [] } := by kernel_rfl
theorem Try.tm_49 : Try.tm 49 = { kind := 1, size := 1, offs := [], zero := [.nilfn], el := 0, esz := 0, eby := 0, eagg := false, ik := none, eqs := false, ezero := [] } := by kernel_rfl
theorem Try.tm_50 : Try.tm 50 = { kind := 1, size := 1, offs := [], zero := [.nilfn], el := 0, esz := 0, eby := 0, eagg := false, ik := none, eqs := false, ezero := [] } := by kernel_rfl
theorem Try.tm_51 : Try.tm 51 = { kind := 1, size := 1, offs := [], zero := [.nilfn], el := 0, esz := 0, eby := 0, eagg := false, ik := none, eqs := false, ezero := [] } := by kernel_rfl
theorem Try.tm_52 : Try.tm 52 = { kind := 1, size := 1, offs := [], zero := [.nilfn], el := 0, esz := 0, eby := 0, eagg := false, ik := none, eqs := false, ezero := [] } := by kernel_rfl
theorem Try.tm_53 : Try.tm 53 = { kind := 3, size := 1, offs := [], zero := [.imm 0 [] 0], el := 72, esz := 1, eby := 24, eagg := false, ik := none, eqs := false, ezero := [.imm 0 [] 0] } := by kernel_rfl
theorem Try.tm_54 : Try.tm 54 = { kind := 3, size := 1, offs := [], zero := [.imm 0 [] 0], el := 72, esz := 1, eby := 24, eagg := false, ik := none, eqs := false, ezero := [.imm 0 [] 0] } := by kernel_rfl
theorem Try.tm_56 : Try.tm 56 = { kind := 1, size := 1, offs := [], zero := [.nilfn], el := 0, esz := 0, eby := 0, eagg := false, ik := none, eqs := false, ezero := [] } := by kernel_rfl
theorem Try.tm_57 : Try.tm 57 = { kind := 1, size := 1, offs := [], zero := [.nilfn], el := 0, esz := 0, eby := 0, eagg := false, ik := none, eqs := false, ezero := [] } := by kernel_rfl
theorem Try.tm_59 : Try.tm 59 = { kind := 1, size := 1, offs := [], zero := [.nilfn], el := 0, esz := 0, eby := 0, eagg := false, ik := none, eqs := false, ezero := [] } := by kernel_rfl
theorem Try.tm_61 : Try.tm 61 = { kind := 1, size := 1, offs := [], zero := [.nilfn], el := 0, esz := 0, eby := 0, eagg := false, ik := none, eqs := false, ezero := [] } := by kernel_rfl
theorem Try.tm_62 : Try.tm 62 = { kind := 2, size := 12, offs := [(0, 1, false), (1, 5, true), (6, 1, false), (7, 1, false), (8, 1, false), (9, 1, false), (10, 1, false), (11, 1, false)], zero := [.int .u8 0, .int .i64 0, .imm 0 [] 0, .int .i64 0, .str [], .str [], .int .i64 0, .int .i64 0, .imm 0 [] 0, .int .i64 0, .int .i64 0, .int .i64 0], el := 0, esz := 0, eby := 0, eagg := false, ik := none, eqs := false, ezero := [] } := by kernel_rfl
theorem Try.tm_63 : Try.tm 63 = { kind := 2, size := 12, offs := [(0, 1, false), (1, 5, true), (6, 1, false), (7, 1, false), (8, 1, false), (9, 1, false), (10, 1, false), (11, 1, false)], zero := [.int .u8 0, .int .i64 0, .imm 0 [] 0, .int .i64 0, .str [], .str [], .int .i64 0, .int .i64 0, .imm 0 [] 0, .int .i64 0, .int .i64 0, .int .i64 0], el := 0, esz := 0, eby := 0, eagg := false, ik := none, eqs := false, ezero := [] } := by kernel_rfl
theorem Try.tm_64 : Try.tm 64 = { kind := 2, size := 19, offs := [(0, 12, true), (12, 3, true), (15, 3, true), (18, 1, false)], zero := [.int .u8 0, .int .i64 0, .imm 0 [] 0, .int .i64 0, .str [], .str [], .int .i64 0, .int .i64 0, .imm 0 [] 0, .int .i64 0, .int .i64 0, .int .i64 0, .int .i64 0, .imm 0 [] 0, .imm 0 [] 0, .int .i64 0, .imm 0 [] 0, .imm 0 [] 0, .imm 0 [] 0], el := 0, esz := 0, eby := 0, eagg := false, ik := none, eqs := false, ezero := [] } := by kernel_rfl
theorem Try.tm_65 : Try.tm 65 = { kind := 2, size := 19, offs := [(0, 12, true), (12, 3, true), (15, 3, true), (18, 1, false)], zero := [.int .u8 0, .int .i64 0, .imm 0 [] 0, .int .i64 0, .str [], .str [], .int .i64 0, .int .i64 0, .imm 0 [] 0, .int .i64 0, .int .i64 0, .int .i64 0, .int .i64 0, .imm 0 [] 0, .imm 0 [] 0, .int .i64 0, .imm 0 [] 0, .imm 0 [] 0, .imm 0 [] 0], el := 0, esz := 0, eby := 0, eagg := false, ik := none, eqs := false, ezero := [] } := by kernel_rfl
theorem Try.tm_66 : Try.tm 66 = { kind := 1, size := 1, offs := [], zero := [.nilfn], el := 0, esz := 0, eby := 0, eagg := false, ik := none, eqs := false, ezero := [] } := by kernel_rfl
theorem Try.tm_67 : Try.tm 67 = { kind := 1, size := 1, offs := [], zero := [.nilfn], el := 0, esz := 0, eby := 0, eagg := false, ik := none, eqs := false, ezero := [] } := by kernel_rfl
theorem Try.tm_68 : Try.tm 68 = { kind := 2, size := 7, offs := [(0, 5, true), (5, 1, false), (6, 1, false)], zero := [.int .i64 0, .imm 0 [] 0, .int .i64 0, .str [], .str [], .int .i64 0, .bool false], el := 0, esz := 0, eby := 0, eagg := false, ik := none, eqs := false, ezero := [] } := by kernel_rfl
theorem Try.tm_69 : Try.tm 69 = { kind := 2, size := 7, offs := [(0, 5, true), (5, 1, false), (6, 1, false)], zero := [.int .i64 0, .imm 0 [] 0, .int .i64 0, .str [], .str [], .int .i64 0, .bool false], el := 0, esz := 0, eby := 0, eagg := false, ik := none, eqs := false, ezero := [] } := by kernel_rfl
theorem Try.tm_70 : Try.tm 70 = { kind := 1, size := 1, offs := [], zero := [.nilfn], el := 0, esz := 0, eby := 0, eagg := false, ik := none, eqs := false, ezero := [] } := by kernel_rfl
theorem Try.tm_71 : Try.tm 71 = { kind := 1, size := 1, offs := [], zero := [.nilfn], el := 0, esz := 0, eby := 0, eagg := false, ik := none, eqs := false, ezero := [] } := by kernel_rfl
theorem Try.tm_72 : Try.tm 72 = { kind := 3, size := 1, offs := [], zero := [.imm 0 [] 0], el := 76, esz := 6, eby := 80, eagg := true, ik := none, eqs := false, ezero := [.int .i64 0, .int .i64 0, .imm 0 [] 0, .int .i64 0, .str [], .str []] } := by kernel_rfl
theorem Try.tm_74 : Try.tm 74 = { kind := 1, size := 1, offs := [], zero := [.nilfn], el := 0, esz := 0, eby := 0, eagg := false, ik := none, eqs := false, ezero := [] } := by kernel_rfl
theorem Try.tm_75 : Try.tm 75 = { kind := 2, size := 6, offs := [(0, 1, false), (1, 5, true)], zero := [.int .i64 0, .int .i64 0, .imm 0 [] 0, .int .i64 0, .str [], .str []], el := 0, esz := 0, eby := 0, eagg := false, ik := none, eqs := false, ezero := [] } := by kernel_rfl
theorem Try.tm_76 : Try.tm 76 = { kind := 2, size := 6, offs := [(0, 1, false), (1, 5, true)], zero := [.int .i64 0, .int .i64 0, .imm 0 [] 0, .int .i64 0, .str [], .str []], el := 0, esz := 0, eby := 0, eagg := false, ik := none, eqs := false, ezero := [] } := by kernel_rfl
theorem Try.tm_78 : Try.tm 78 = { kind := 1, size := 1, offs := [], zero := [.nilfn], el := 0, esz := 0, eby := 0, eagg := false, ik := none, eqs := false, ezero := [] } := by kernel_rfl
theorem Try.tm_79 : Try.tm 79 = { kind := 1, size := 1, offs := [], zero := [.nilfn], el := 0, esz := 0, eby := 0, eagg := false, ik := none, eqs := false, ezero := [] } := by kernel_rfl
theorem Try.tm_80 : Try.tm 80 = { kind := 9, size := 1, offs := [], zero := [.nilmap], el := 3, esz := 1, eby := 0, eagg := false, ik := none, eqs := false, ezero := [.int .i64 0] } := by kernel_rfl
theorem Try.tm_81 : Try.tm 81 = { kind := 1, size := 1, offs := [], zero := [.nilfn], el := 0, esz := 0, eby := 0, eagg := false, ik := none, eqs := false, ezero := [] } := by kernel_rfl
theorem Try.tm_82 : Try.tm 82 = { kind := 1, size := 1, offs := [], zero := [.nilfn], el := 0, esz := 0, eby := 0, eagg := false, ik := none, eqs := false, ezero := [] } := by kernel_rfl
theorem Try.tm_83 : Try.tm 83 = { kind := 1, size := 1, offs := [], zero := [.nilfn], el := 0, esz := 0, eby := 0, eagg := false, ik := none, eqs := false, ezero := [] } := by kernel_rfl
theorem Try.tm_84 : Try.tm 84 = { kind := 1, size := 1, offs := [], zero := [.nilfn], el := 0, esz := 0, eby := 0, eagg := false, ik := none, eqs := false, ezero := [] } := by kernel_rfl
theorem Try.tm_85 : Try.tm 85 = { kind := 1, size := 1, offs := [], zero := [.nilfn], el := 0, esz := 0, eby := 0, eagg := false, ik := none, eqs := false, ezero := [] } := by kernel_rfl
theorem Try.tm_86 : Try.tm 86 = { kind := 1, size := 1, offs := [], zero := [.nilfn], el := 0, esz := 0, eby := 0, eagg := false, ik := none, eqs := false, ezero := [] } := by kernel_rfl
theorem Try.tm_87 : Try.tm 87 = { kind := 1, size := 1, offs := [], zero := [.nilfn], el := 0, esz := 0, eby := 0, eagg := false, ik := none, eqs := false, ezero := [] } := by kernel_rfl
theorem Try.tm_88 : Try.tm 88 = { kind := 1, size := 1, offs := [], zero := [.nilfn], el := 0, esz := 0, eby := 0, eagg := false, ik := none, eqs := false, ezero := [] } := by kernel_rfl
theorem Try.tm_89 : Try.tm 89 = { kind := 9, size := 1, offs := [], zero := [.nilmap], el := 3, esz := 5, eby := 0, eagg := true, ik := none, eqs := false, ezero := [.int .i64 0, .imm 0 [] 0, .int .i64 0, .str [], .str []] } := by kernel_rfl
theorem Try.tm_90 : Try.tm 90 = { kind := 1, size := 1, offs := [], zero := [.nilfn], el := 0, esz := 0, eby := 0, eagg := false, ik := none, eqs := false, ezero := [] } := by kernel_rfl
theorem Try.tm_92 : Try.tm 92 = { kind := 3, size := 1, offs := [], zero := [.imm 0 [] 0], el := 63, esz := 12, eby := 144, eagg := true, ik := none, eqs := false, ezero := [.int .u8 0, .int .i64 0, .imm 0 [] 0, .int .i64 0, .str [], .str [], .int .i64 0, .int .i64 0, .imm 0 [] 0, .int .i64 0, .int .i64 0, .int .i64 0] } := by kernel_rfl
theorem Try.tm_94 : Try.tm 94 = { kind := 1, size := 1, offs := [], zero := [.nilfn], el := 0, esz := 0, eby := 0, eagg := false, ik := none, eqs := false, ezero := [] } := by kernel_rfl
theorem Try.tm_95 : Try.tm 95 = { kind := 1, size := 1, offs := [], zero := [.nilfn], el := 0, esz := 0, eby := 0, eagg := false, ik := none, eqs := false, ezero := [] } := by kernel_rfl
theorem Try.tm_96 : Try.tm 96 = { kind := 1, size := 1, offs := [], zero := [.nilfn], el := 0, esz := 0, eby := 0, eagg := false, ik := none, eqs := false, ezero := [] } := by kernel_rfl
theorem Try.tm_97 : Try.tm 97 = { kind := 1, size := 1, offs := [], zero := [.nilfn], el := 0, esz := 0, eby := 0, eagg := false, ik := none, eqs := false, ezero := [] } := by kernel_rfl
theorem Try.tm_98 : Try.tm 98 = { kind := 1, size := 1, offs := [], zero := [.nilfn], el := 0, esz := 0, eby := 0, eagg := false, ik := none, eqs := false, ezero := [] } := by kernel_rfl
theorem Try.tm_99 : Try.tm 99 = { kind := 1, size := 1, offs := [], zero := [.nilfn], el := 0, esz := 0, eby := 0, eagg := false, ik := none, eqs := false, ezero := [] } := by kernel_rfl
theorem Try.tm_100 : Try.tm 100 = { kind := 1, size := 1, offs := [], zero := [.nilfn], el := 0, esz := 0, eby := 0, eagg := false, ik := none, eqs := false, ezero := [] } := by kernel_rfl
theorem Try.tm_101 : Try.tm 101 = { kind := 1, size := 1, offs := [], zero := [.nilfn], el := 0, esz := 0, eby := 0, eagg := false, ik := none, eqs := false, ezero := [] } := by kernel_rfl
theorem Try.tm_102 : Try.tm 102 = { kind := 1, size := 1, offs := [], zero := [.nilfn], el := 0, esz := 0, eby := 0, eagg := false, ik := none, eqs := false, ezero := [] } := by kernel_rfl
theorem Try.tm_103 : Try.tm 103 = { kind := 1, size := 1, offs := [], zero := [.nilfn], el := 0, esz := 0, eby := 0, eagg := false, ik := none, eqs := false, ezero := [] } := by kernel_rfl
theorem Try.tm_104 : Try.tm 104 = { kind := 1, size := 1, offs := [], zero := [.nilfn], el := 0, esz := 0, eby := 0, eagg := false, ik := none, eqs := false, ezero := [] } := by kernel_rfl
theorem Try.tm_105 : Try.tm 105 = { kind := 1, size := 1, offs := [], zero := [.nilfn], el := 0, esz := 0, eby := 0, eagg := false, ik := none, eqs := false, ezero := [] } := by kernel_rfl
theorem Try.tm_107 : Try.tm 107 = { kind := 1, size := 1, offs := [], zero := [.nilfn], el := 0, esz := 0, eby := 0, eagg := false, ik := none, eqs := false, ezero := [] } := by kernel_rfl
theorem Try.tm_108 : Try.tm 108 = { kind := 1, size := 1, offs := [], zero := [.nilfn], el := 0, esz := 0, eby := 0, eagg := false, ik := none, eqs := false, ezero := [] } := by kernel_rfl
theorem Try.tm_109 : Try.tm 109 = { kind := 1, size := 1, offs := [], zero := [.nilptr], el := 0, esz := 0, eby := 0, eagg := false, ik := none, eqs := false, ezero := [] } := by kernel_rfl
theorem Try.tm_110 : Try.tm 110 = { kind := 2, size := 3, offs := [(0, 3, true)], zero := [.int .i64 0, .imm 0 [] 0, .imm 0 [] 0], el := 0, esz := 0, eby := 0, eagg := false, ik := none, eqs := false, ezero := [] } := by kernel_rfl
theorem Try.tm_111 : Try.tm 111 = { kind := 2, size := 3, offs := [(0, 3, true)], zero := [.int .i64 0, .imm 0 [] 0, .imm 0 [] 0], el := 0, esz := 0, eby := 0, eagg := false, ik := none, eqs := false, ezero := [] } := by kernel_rfl
theorem Try.tm_112 : Try.tm 112 = { kind := 1, size := 1, offs := [], zero := [.nilfn], el := 0, esz := 0, eby := 0, eagg := false, ik := none, eqs := false, ezero := [] } := by kernel_rfl
theorem Try.tm_113 : Try.tm 113 = { kind := 1, size := 1, offs := [], zero := [.nilfn], el := 0, esz := 0, eby := 0, eagg := false, ik := none, eqs := false, ezero := [] } := by kernel_rfl
theorem Try.tm_114 : Try.tm 114 = { kind := 1, size := 1, offs := [], zero := [.nilfn], el := 0, esz := 0, eby := 0, eagg := false, ik := none, eqs := false, ezero := [] } := by kernel_rfl
theorem Try.tm_115 : Try.tm 115 = { kind := 1, size := 1, offs := [], zero := [.nilfn], el := 0, esz := 0, eby := 0, eagg := false, ik := none, eqs := false, ezero := [] } := by kernel_rfl
theorem Try.tm_116 : Try.tm 116 = { kind := 1, size := 1, offs := [], zero := [.nilfn], el := 0, esz := 0, eby := 0, eagg := false, ik := none, eqs := false, ezero := [] } := by kernel_rfl
theorem Try.tm_117 : Try.tm 117 = { kind := 1, size := 1, offs := [], zero := [.nilfn], el := 0, esz := 0, eby := 0, eagg := false, ik := none, eqs := false, ezero := [] } := by kernel_rfl
theorem Try.tm_119 : Try.tm 119 = { kind := 1, size := 1, offs := [], zero := [.nilfn], el := 0, esz := 0, eby := 0, eagg := false, ik := none, eqs := false, ezero := [] } := by kernel_rfl
theorem Try.tm_120 : Try.tm 120 = { kind := 1, size := 1, offs := [], zero := [.nilfn], el := 0, esz := 0, eby := 0, eagg := false, ik := none, eqs := false, ezero := [] } := by kernel_rfl
theorem Try.tm_121 : Try.tm 121 = { kind := 3, size := 1, offs := [], zero := [.imm 0 [] 0], el := 5, esz := 1, eby := 1, eagg := false, ik := none, eqs := false, ezero := [.int .u8 0] } := by kernel_rfl
theorem Try.tm_123 : Try.tm 123 = { kind := 1, size := 1, offs := [], zero := [.nilfn], el := 0, esz := 0, eby := 0, eagg := false, ik := none, eqs := false, ezero := [] } := by kernel_rfl
theorem Try.tm_124 : Try.tm 124 = { kind := 1, size := 1, offs := [], zero := [.nilfn], el := 0, esz := 0, eby := 0, eagg := false, ik := none, eqs := false, ezero := [] } := by kernel_rfl
theorem Try.tm_125 : Try.tm 125 = { kind := 1, size := 1, offs := [], zero := [.nilfn], el := 0, esz := 0, eby := 0, eagg := false, ik := none, eqs := false, ezero := [] } := by kernel_rfl
theorem Try.tm_126 : Try.tm 126 = { kind := 1, size := 1, offs := [], zero := [.nilfn], el := 0, esz := 0, eby := 0, eagg := false, ik := none, eqs := false, ezero := [] } := by kernel_rfl
theorem Try.tm_127 : Try.tm 127 = { kind := 1, size := 1, offs := [], zero := [.nilfn], el := 0, esz := 0, eby := 0, eagg := false, ik := none, eqs := false, ezero := [] } := by kernel_rfl
theorem Try.tm_128 : Try.tm 128 = { kind := 1, size := 1, offs := [], zero := [.nilfn], el := 0, esz := 0, eby := 0, eagg := false, ik := none, eqs := false, ezero := [] } := by kernel_rfl
theorem Try.tm_129 : Try.tm 129 = { kind := 1, size := 1, offs := [], zero := [.nilptr], el := 0, esz := 0, eby := 0, eagg := false, ik := none, eqs := false, ezero := [] } := by kernel_rfl
theorem Try.tm_130 : Try.tm 130 = { kind := 2, size := 2, offs := [(0, 1, false), (1, 1, false)], zero := [.imm 0 [] 0, .bool false], el := 0, esz := 0, eby := 0, eagg := false, ik := none, eqs := false, ezero := [] } := by kernel_rfl
theorem Try.tm_131 : Try.tm 131 = { kind := 2, size := 2, offs := [(0, 1, false), (1, 1, false)], zero := [.imm 0 [] 0, .bool false], el := 0, esz := 0, eby := 0, eagg := false, ik := none, eqs := false, ezero := [] } := by kernel_rfl
theorem Try.tm_132 : Try.tm 132 = { kind := 1, size := 1, offs := [], zero := [.nilfn], el := 0, esz := 0, eby := 0, eagg := false, ik := none, eqs := false, ezero := [] } := by kernel_rfl
theorem Try.tm_133 : Try.tm 133 = { kind := 1, size := 1, offs := [], zero := [.nilfn], el := 0, esz := 0, eby := 0, eagg := false, ik := none, eqs := false, ezero := [] } := by kernel_rfl
theorem Try.tm_134 : Try.tm 134 = { kind := 1, size := 1, offs := [], zero := [.nilfn], el := 0, esz := 0, eby := 0, eagg := false, ik := none, eqs := false, ezero := [] } := by kernel_rfl
theorem Try.tm_135 : Try.tm 135 = { kind := 1, size := 1, offs := [], zero := [.nilfn], el := 0, esz := 0, eby := 0, eagg := false, ik := none, eqs := false, ezero := [] } := by kernel_rfl
theorem Try.tm_136 : Try.tm 136 = { kind := 1, size := 1, offs := [], zero := [.nilfn], el := 0, esz := 0, eby := 0, eagg := false, ik := none, eqs := false, ezero := [] } := by kernel_rfl
theorem Try.tm_137 : Try.tm 137 = { kind := 1, size := 1, offs := [], zero := [.nilfn], el := 0, esz := 0, eby := 0, eagg := false, ik := none, eqs := false, ezero := [] } := by kernel_rfl
theorem Try.tm_138 : Try.tm 138 = { kind := 1, size := 1, offs := [], zero := [.nilfn], el := 0, esz := 0, eby := 0, eagg := false, ik := none, eqs := false, ezero := [] } := by kernel_rfl
theorem Try.tm_139 : Try.tm 139 = { kind := 1, size := 1, offs := [], zero := [.nilfn], el := 0, esz := 0, eby := 0, eagg := false, ik := none, eqs := false, ezero := [] } := by kernel_rfl
theorem Try.tm_140 : Try.tm 140 = { kind := 1, size := 1, offs := [], zero := [.nilfn], el := 0, esz := 0, eby := 0, eagg := false, ik := none, eqs := false, ezero := [] } := by kernel_rfl
theorem Try.tm_141 : Try.tm 141 = { kind := 1, size := 1, offs := [], zero := [.nilfn], el := 0, esz := 0, eby := 0, eagg := false, ik := none, eqs := false, ezero := [] } := by kernel_rfl
theorem Try.tm_142 : Try.tm 142 = { kind := 1, size := 1, offs := [], zero := [.nilfn], el := 0, esz := 0, eby := 0, eagg := false, ik := none, eqs := false, ezero := [] } := by kernel_rfl
theorem Try.tm_143 : Try.tm 143 = { kind := 1, size := 1, offs := [], zero := [.nilfn], el := 0, esz := 0, eby := 0, eagg := false, ik := none, eqs := false, ezero := [] } := by kernel_rfl
theorem Try.tm_144 : Try.tm 144 = { kind := 1, size := 1, offs := [], zero := [.nilfn], el := 0, esz := 0, eby := 0, eagg := false, ik := none, eqs := false, ezero := [] } := by kernel_rfl
theorem Try.tm_145 : Try.tm 145 = { kind := 1, size := 1, offs := [], zero := [.nilfn], el := 0, esz := 0, eby := 0, eagg := false, ik := none, eqs := false, ezero := [] } := by kernel_rfl
theorem Try.tm_146 : Try.tm 146 = { kind := 1, size := 1, offs := [], zero := [.nilfn], el := 0, esz := 0, eby := 0, eagg := false, ik := none, eqs := false, ezero := [] } := by kernel_rfl
theorem Try.tm_147 : Try.tm 147 = { kind := 1, size := 1, offs := [], zero := [.nilfn], el := 0, esz := 0, eby := 0, eagg := false, ik := none, eqs := false, ezero := [] } := by kernel_rfl
theorem Try.tm_148 : Try.tm 148 = { kind := 1, size := 1, offs := [], zero := [.nilfn], el := 0, esz := 0, eby := 0, eagg := false, ik := none, eqs := false, ezero := [] } := by kernel_rfl
theorem Try.tm_149 : Try.tm 149 = { kind := 1, size := 1, offs := [], zero := [.nilfn], el := 0, esz := 0, eby := 0, eagg := false, ik := none, eqs := false, ezero := [] } := by kernel_rfl
theorem Try.tm_150 : Try.tm 150 = { kind := 1, size := 1, offs := [], zero := [.nilfn], el := 0, esz := 0, eby := 0, eagg := false, ik := none, eqs := false, ezero := [] } := by kernel_rfl
theorem Try.tm_151 : Try.tm 151 = { kind := 1, size := 1, offs := [], zero := [.nilfn], el := 0, esz := 0, eby := 0, eagg := false, ik := none, eqs := false, ezero := [] } := by kernel_rfl
theorem Try.tm_152 : Try.tm 152 = { kind := 1, size := 1, offs := [], zero := [.nilfn], el := 0, esz := 0, eby := 0, eagg := false, ik := none, eqs := false, ezero := [] } := by kernel_rfl
theorem Try.tm_153 : Try.tm 153 = { kind := 6, size := 1, offs := [], zero := [.int .u64 0], el := 0, esz := 0, eby := 0, eagg := false, ik := some .u64, eqs := false, ezero := [] } := by kernel_rfl
theorem Try.tm_155 : Try.tm 155 = { kind := 1, size := 1, offs := [], zero := [.nilfn], el := 0, esz := 0, eby := 0, eagg := false, ik := none, eqs := false, ezero := [] } := by kernel_rfl
theorem Try.tm_156 : Try.tm 156 = { kind := 1, size := 1, offs := [], zero := [.nilfn], el := 0, esz := 0, eby := 0, eagg := false, ik := none, eqs := false, ezero := [] } := by kernel_rfl
theorem Try.tm_158 : Try.tm 158 = { kind := 1, size := 1, offs := [], zero := [.nilfn], el := 0, esz := 0, eby := 0, eagg := false, ik := none, eqs := false, ezero := [] } := by kernel_rfl
theorem Try.tm_160 : Try.tm 160 = { kind := 1, size := 1, offs := [], zero := [.nilfn], el := 0, esz := 0, eby := 0, eagg := false, ik := none, eqs := false, ezero := [] } := by kernel_rfl
theorem Try.tm_161 : Try.tm 161 = { kind := 1, size := 1, offs := [], zero := [.nilfn], el := 0, esz := 0, eby := 0, eagg := false, ik := none, eqs := false, ezero := [] } := by kernel_rfl
theorem Try.tm_162 : Try.tm 162 = { kind := 1, size := 1, offs := [], zero := [.nilfn], el := 0, esz := 0, eby := 0, eagg := false, ik := none, eqs := false, ezero := [] } := by kernel_rfl
theorem Try.tm_163 : Try.tm 163 = { kind := 2, size := 4, offs := [(0, 1, false), (1, 1, false), (2, 1, false), (3, 1, false)], zero := [.nilptr, .nilptr, .nilptr, .str []], el := 0, esz := 0, eby := 0, eagg := false, ik := none, eqs := false, ezero := [] } := by kernel_rfl
theorem Try.tm_164 : Try.tm 164 = { kind := 2, size := 4, offs := [(0, 1, false), (1, 1, false), (2, 1, false), (3, 1, false)], zero := [.nilptr, .nilptr, .nilptr, .str []], el := 0, esz := 0, eby := 0, eagg := false, ik := none, eqs := false, ezero := [] } := by kernel_rfl
theorem Try.tm_165 : Try.tm 165 = { kind := 4, size := 0, offs := [], zero := [], el := 0, esz := 0, eby := 0, eagg := false, ik := none, eqs := false, ezero := [] } := by kernel_rfl
theorem Try.tm_168 : Try.tm 168 = { kind := 6, size := 1, offs := [], zero := [.int .u32 0], el := 0, esz := 0, eby := 0, eagg := false, ik := some .u32, eqs := false, ezero := [] } := by kernel_rfl
theorem Try.tm_169 : Try.tm 169 = { kind := 6, size := 1, offs := [], zero := [.int .u8 0], el := 0, esz := 0, eby := 0, eagg := false, ik := some .u8, eqs := false, ezero := [] } := by kernel_rfl
theorem Try.tm_170 : Try.tm 170 = { kind := 6, size := 1, offs := [], zero := [.int .u8 0], el := 0, esz := 0, eby := 0, eagg := false, ik := some .u8, eqs := false, ezero := [] } := by kernel_rfl
theorem Try.tm_171 : Try.tm 171 = { kind := 1, size := 1, offs := [], zero := [.nilfn], el := 0, esz := 0, eby := 0, eagg := false, ik := none, eqs := false, ezero := [] } := by kernel_rfl
theorem Try.tm_172 : Try.tm 172 = { kind := 1, size := 1, offs := [], zero := [.nilptr], el := 0, esz := 0, eby := 0, eagg := false, ik := none, eqs := false, ezero := [] } := by kernel_rfl
theorem Try.tm_173 : Try.tm 173 = { kind := 6, size := 1, offs := [], zero := [.int .i32 0], el := 0, esz := 0, eby := 0, eagg := false, ik := some .i32, eqs := false, ezero := [] } := by kernel_rfl
theorem Try.tm_174 : Try.tm 174 = { kind := 6, size := 1, offs := [], zero := [.int .i32 0], el := 0, esz := 0, eby := 0, eagg := false, ik := some .i32, eqs := false, ezero := [] } := by kernel_rfl
theorem Try.tm_175 : Try.tm 175 = { kind := 2, size := 11, offs := [(0, 1, false), (1, 1, false), (2, 1, false), (3, 1, false), (4, 1, false), (5, 1, false), (6, 1, false), (7, 1, false), (8, 1, false), (9, 1, false), (10, 1, false)], zero := [.int .u64 0, .int .u64 0, .int .u32 0, .int .u8 0, .int .u8 0, .int .u8 0, .int .u8 0, .nilfn, .nilptr, .int .i32 0, .int .i32 0], el := 0, esz := 0, eby := 0, eagg := false, ik := none, eqs := false, ezero := [] } := by kernel_rfl
theorem Try.tm_176 : Try.tm 176 = { kind := 2, size := 11, offs := [(0, 1, false), (1, 1, false), (2, 1, false), (3, 1, false), (4, 1, false), (5, 1, false), (6, 1, false), (7, 1, false), (8, 1, false), (9, 1, false), (10, 1, false)], zero := [.int .u64 0, .int .u64 0, .int .u32 0, .int .u8 0, .int .u8 0, .int .u8 0, .int .u8 0, .nilfn, .nilptr, .int .i32 0, .int .i32 0], el := 0, esz := 0, eby := 0, eagg := false, ik := none, eqs := false, ezero := [] } := by kernel_rfl
end Go.Proofs
end
section
namespace Go.Proofs
open Go.Tm
theorem Try.S : Seat Try.prog Try.tm := ⟨Try.tmOk, Try.tmMixed⟩
end Go.Proofs
end
section
namespace Go.Tm
theorem lb {a b : Nat} (h : Nat.ble a b = true) : a <= b := Nat.le_of_ble_eq_true h
section
variable {P : Program} {tab : Nat -> TI} {lim n : Nat}
end
end Go.Tm
end
section
namespace Go.Tm
theorem sj {α : Type} {a b : α} (h : some a = some b) : a = b := Option.some.inj h
section
variable {P : Program} {tab : Nat -> TI} {lim n : Nat}
end
end Go.Tm
end
section
namespace Go.Tm
open Go.RowKit Go.WideShapes
end Go.Tm
end
section
namespace Go.Tm
open Go.RowKit Go.WideShapes
section
variable {fr : Nat} {w : World} {g : Gh} {hp : Nat -> Option Blk}
end
end Go.Tm
end
section
namespace Go.Tm
open Go.RowKit Go.WideShapes
end Go.Tm
end
section
namespace Go.Tm
open Go.RowKit Go.WideShapes
end Go.Tm
end
section
namespace Go.Proofs
open Go.Tm
set_option linter.unusedVariables false
def zaz (v : Int) : List Int -> Nat -> Option (Int ⊕ Unit)
 | [], n1 =>
  some (.inr ())
 | y1 :: rest1, n1 =>
  if v = y1 then
  some (.inl (n1 : Int))
  else
  zaz v rest1 (n1 + 1) 
def zds (s : List Int) (v : Int) : Option Int :=
 Option.bind (α := Int ⊕ Unit) (zaz v s 0 ) fun z => match z with
 | (.inl r) => some r
 | (.inr _) =>
 some (-1)
def zch (a0 : List Int) (a1 : Int) : Option Bool :=
 Option.bind (zds a0 a1) fun v1 =>
 some (decide (v1 >= 0))
def zbr : List Int -> Int -> Option (Int ⊕ Int)
 | [], n2 =>
  some (.inr n2)
 | y1 :: rest1, n2 =>
  if (y1 <= n2) \/ (y1 >= 6) then
  some (.inl 60)
  else
  zbr rest1 (y1)
def zf7 (a0 : List Int) : Option Int :=
 if (a0.length : Int) > 6 then
 some 4
 else
 Option.bind (α := Int ⊕ Int) (zbr a0 (-1)) fun z => match z with
 | (.inl r) => some r
 | (.inr n1) =>
 if n1 < 0 then
 some 60
 else
 some 0
end Go.Proofs
end

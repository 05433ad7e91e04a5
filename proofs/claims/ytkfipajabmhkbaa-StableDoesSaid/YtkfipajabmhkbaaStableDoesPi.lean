/- Texts of the proof. -/
import Derived.Lib.Overlaps
import Derived.KernelRfl
import Derived.Test.YtkfipajabmhkbaaStableDoesPf
import Derived.Test.YtkfipajabmhkbaaStableDoesPh
import Derived.Test.YtkfipajabmhkbaaStableDoesPg
section
namespace Go.Tm
theorem apn {xs : List D} (h : xs = []) : ∀ (hp : Nat → Option Blk) (nid el esz eby s c : Nat) (px vx : Bool), appendD hp nid el esz eby (.imm s [] c) xs px vx = some ⟨.imm esz [] c, vx, [], (0, 0), []⟩ := fun _ _ _ _ _ _ _ _ _ => appendD_nil h
theorem apc {xs : List D} (h : xs ≠ []) : ∀ (hp : Nat → Option Blk) (nid el esz eby s c : Nat) (px vx : Bool), appendD hp nid el esz eby (.imm s [] c) xs px vx = some ⟨.ref nid esz 0 xs.length none, vx && (Nat.ble (c % 8) 1 || Nat.beq (c % 8) 3) && decide (xs.length * eby ≤ 140737488355328), [(nid, some (.arr el esz px xs))], (nid, nid + 1), []⟩ := fun _ _ _ _ _ _ _ _ _ => appendD_cons h
theorem lb {a b : Nat} (h : Nat.ble a b = true) : a ≤ b := Nat.le_of_ble_eq_true h
section
variable {P : Program} {tab : Nat → TI} {lim n : Nat}
theorem Ok.pp {id : Nat} {ops : Array Oper} {st st' : St} {vc : Bool} {acc : List FP} {Q : Exit → St → Prop} (S : Seat P tab) (V : List Nat)
  (h : Comes (runE tab true false ops.toList ops.toList ⟨keep V st.vars, st.heap, st.nx⟩ true []) st' vc acc []) (hQ : Q .normal st') (hok : regOk n ops false = true := by decide +kernel)
  (hv : vc = true := by first | rfl | (simp only [go_sem, Nat.reduceLeDiff]; done) | (simp only [go_sem, Nat.reduceLeDiff]; rfl) | (simp; done) | (simp [oneD] <;> omega) | (simp_all; done) | (simp_all [oneD] <;> omega)) (hlim : st'.nx ≤ lim := by first | exact Nat.le_refl _ | exact Nat.le_of_ble_eq_true rfl | (dsimp only; omega) | (simp <;> omega)) : Ok P lim n (.region id ops false) st Q :=
 .plain S.tm S.mixed V hok h hv hlim hQ
theorem Ok.px {X : Prop} {id : Nat} {ops : Array Oper} {st st' : St} {vc : Bool} {acc : List FP} {Q : Exit → St → Prop} (S : Seat P tab) (x : X) (V : List Nat) (hQ : Q .normal st') (hok : regOk n ops false = true := by decide +kernel)
  (h : X → Comes (runE tab true false ops.toList ops.toList ⟨keep V st.vars, st.heap, st.nx⟩ true []) st' vc acc [] := by intro x q hq; simp only [go_sem, Nat.reduceSub, Int.reduceEq, Nat.reduceLT, Nat.reduceDiv, Nat.reduceAdd, Nat.reduceBEq, Nat.reduceLeDiff, reduceCtorEq, Nat.reduceEqDiff, Nat.reduceMod, Nat.reduceMul, x]; exact hq)
  (hv : vc = true := by first | rfl | (simp only [go_sem, Nat.reduceLeDiff]; done) | (simp only [go_sem, Nat.reduceLeDiff]; rfl) | (simp; done) | (simp [oneD] <;> omega) | (simp_all; done) | (simp_all [oneD] <;> omega)) (hlim : st'.nx ≤ lim := by first | exact Nat.le_refl _ | exact Nat.le_of_ble_eq_true rfl | (dsimp only; omega) | (simp <;> omega)) : Ok P lim n (.region id ops false) st Q :=
 .plain S.tm S.mixed V hok (h x) hv hlim hQ
theorem Ok.dx {X : Prop} {id : Nat} {ops : Array Oper} {st st' : St} {vc : Bool} {acc : List FP} {Q : Exit → St → Prop} (S : Seat P tab) (x : X) (V : List Nat) (hQ : Q .normal st') (hok : regOk n ops true = true := by decide +kernel)
  (h : X → Comes (runE tab true true ops.toList ops.toList ⟨keep V st.vars, st.heap, st.nx⟩ true []) st' vc acc [] := by intro x q hq; simp only [go_sem, Nat.reduceSub, Int.reduceEq, Nat.reduceLT, Nat.reduceDiv, Nat.reduceAdd, Nat.reduceBEq, Nat.reduceLeDiff, reduceCtorEq, Nat.reduceEqDiff, Nat.reduceMod, Nat.reduceMul, x]; exact hq)
  (hs : schedB ops (fun i => (acc[i]?).getD fpDflt) = true := by exact schedB_of (by kernel_rfl))
  (hv : vc = true := by first | rfl | (simp only [go_sem, Nat.reduceLeDiff]; done) | (simp only [go_sem, Nat.reduceLeDiff]; rfl) | (simp; done) | (simp [oneD] <;> omega) | (simp_all; done) | (simp_all [oneD] <;> omega)) (hlim : st'.nx ≤ lim := by first | exact Nat.le_refl _ | exact Nat.le_of_ble_eq_true rfl | (dsimp only; omega) | (simp <;> omega)) : Ok P lim n (.region id ops true) st Q :=
 .drawn S.tm S.mixed V hok (h x) hs hv hlim hQ
theorem WRun.rx {X1 X2 X3 X4 : Prop} {ops : Array Oper} (k : Nat) {l l' : List Oper} {st st' : St} {acc acc' : List FP} {Q : St → List FP → Prop} {vc : Bool} (x1 : X1) (x2 : X2) (x3 : X3) (x4 : X4)
  (hQ : WRun P tab true lim ops l' st' acc' Q)
  (h : X1 → X2 → X3 → X4 → Comes (runK tab true true ops.toList k l st true acc) st' vc acc' l' := by intro x1 x2 x3 x4 q hq; simp only [go_sem, Nat.reduceSub, Int.reduceEq, Nat.reduceLT, Nat.reduceDiv, Nat.reduceAdd, Nat.reduceBEq, Nat.reduceLeDiff, reduceCtorEq, Nat.reduceEqDiff, Nat.reduceMod, Nat.reduceMul, x1, x2, x3, x4]; exact hq)
  (hv : vc = true := by first | rfl | (simp only [go_sem, Nat.reduceLeDiff]; done) | (simp only [go_sem, Nat.reduceLeDiff]; rfl) | (simp; done) | (simp [oneD] <;> omega) | (simp_all; done) | (simp_all [oneD] <;> omega)) (hlim : st'.nx ≤ lim := by first | exact Nat.le_refl _ | exact Nat.le_of_ble_eq_true rfl | (dsimp only; omega) | (simp <;> omega)) : WRun P tab true lim ops l st acc Q :=
 WRun.EN k (h x1 x2 x3 x4).eq (.inl rfl) hv hlim hQ
end
end Go.Tm
end
section
namespace Go.Tm
theorem sj {α : Type} {a b : α} (h : some a = some b) : a = b := Option.some.inj h
section
variable {P : Program} {tab : Nat → TI} {lim n : Nat}
end
end Go.Tm
end
section
namespace Go.Tm
open Go.RowKit Go.WideShapes
def qrefs (s : Nat) : Nat → List Nat → List D
 | _, [] => []
 | F, n :: r => .ref F s 0 n (some unkC) :: qrefs s (F + 1) r
theorem qrefs_len (s : Nat) : ∀ (ns : List Nat) (F : Nat), (qrefs s F ns).length = ns.length
 | [], _ => rfl
 | _ :: r, F => by simp only [qrefs, List.length_cons, qrefs_len s r (F + 1)]
theorem qrefs_mem (s : Nat) : ∀ (ns : List Nat) (F i : Nat), i ∈ D.idsL (qrefs s F ns) ↔ F ≤ i ∧ i < F + ns.length
 | [], F, i => by simp only [qrefs, D.idsL, List.not_mem_nil, List.length_nil, false_iff]; omega
 | n :: r, F, i => by
  simp only [qrefs, D.idsL, D.ids, List.singleton_append, List.mem_cons, qrefs_mem s r (F + 1) i, List.length_cons]
  omega
theorem qrefs_ren (s : Nat) (f : Nat → Nat) : ∀ (ns : List Nat) (F G : Nat), (∀ i, i < ns.length → f (F + i) = G + i) → D.renL f (qrefs s F ns) = qrefs s G ns
 | [], _, _, _ => rfl
 | n :: r, F, G, h => by
  simp only [qrefs, D.renL, D.ren]
  have h0 := h 0 (by simp)
  rw [Nat.add_zero, Nat.add_zero] at h0
  rw [h0, qrefs_ren s f r (F + 1) (G + 1) fun i hi => by
   have := h (i + 1) (by simpa using hi)
   rw [show F + 1 + i = F + (i + 1) by omega, show G + 1 + i = G + (i + 1) by omega]
   exact this]
theorem qrefs_get (s : Nat) : ∀ (ns : List Nat) (F i : Nat), i < ns.length → (qrefs s F ns)[i]? = some (.ref (F + i) s 0 (ns.getD i 0) (some unkC))
 | [], _, _, h => by simp at h
 | n :: r, F, 0, _ => rfl
 | n :: r, F, i + 1, h => by
  simp only [qrefs, List.getElem?_cons_succ, List.getD_cons_succ]
  rw [qrefs_get s r (F + 1) i (by simpa using h), show F + 1 + i = F + (i + 1) by omega]
theorem qrefs_nth (s F i : Nat) (ns : List Nat) (h : i < ns.length) : nth (qrefs s F ns) i = .ref (F + i) s 0 (ns.getD i 0) (some unkC) := by
 unfold nth
 rw [List.getD_eq_getElem?_getD, qrefs_get s ns F i h]
 rfl
theorem mvOk_of {ps : List (Nat × Nat)} {n0 n1 : Nat} : ∀ {l : List Nat}, (∀ i ∈ l, (mvF ps i = i ∧ i < n0) ∨ (n0 ≤ mvF ps i ∧ mvF ps i < n1)) → (∀ i ∈ l, ∀ j ∈ l, mvF ps i = mvF ps j → i = j) → mvOk ps n0 n1 l = true
 | [], _, _ => rfl
 | i :: r, h1, h2 => by
  simp only [mvOk, Bool.and_eq_true]
  refine ⟨⟨?_, ?_⟩, mvOk_of (fun x hx => h1 x (List.mem_cons_of_mem _ hx)) fun x hx y hy => h2 x (List.mem_cons_of_mem _ hx) y (List.mem_cons_of_mem _ hy)⟩
  ·rcases h1 i (List.mem_cons_self ..) with ⟨e, k⟩ | ⟨k1, k2⟩
   ·have : Nat.blt i n0 = true := Nat.ble_eq_true_of_le k
    rw [this]
    simp only [cond_true, Bool.or_eq_true]
    exact .inl (by rw [e]; exact Nat.beq_refl i)
   ·have a : Nat.ble n0 (mvF ps i) = true := Nat.ble_eq_true_of_le k1
    have b : Nat.blt (mvF ps i) n1 = true := Nat.ble_eq_true_of_le k2
    cases Nat.blt i n0 <;> simp [a, b]
  ·rw [List.all_eq_true]
   intro j hj
   simp only [Bool.or_eq_true, Bool.not_eq_true']
   by_cases e : mvF ps i = mvF ps j
   ·exact .inl (by rw [h2 i (List.mem_cons_self ..) j (List.mem_cons_of_mem _ hj) e]; exact Nat.beq_refl j)
   ·exact .inr (by
     cases hb : Nat.beq (mvF ps i) (mvF ps j)
     ·rfl
     ·exact absurd (Nat.eq_of_beq_eq_true hb) e)
theorem Goes.mvS {lim n0 : Nat} {st s : St} (V H : List Nat) (ps : List (Nat × Nat)) (L : List Nat) (hL : ∀ i ∈ idsV (pickL V st.vars) ++ idsH (pickL H st.heap), i ∈ L) (h1 : (⟨mvV (mvF ps) (pickL V st.vars), mvH (mvF ps) (pickL H st.heap), s.nx⟩ : St) = s) (h2 : n0 ≤ s.nx := by exact Nat.le_of_ble_eq_true rfl) (h3 : s.nx ≤ lim := by exact Nat.le_of_ble_eq_true rfl) (h4 : mvOk ps n0 s.nx L = true := by kernel_rfl) : Goes lim n0 st s :=
 .mv V H ps h1 h2 h3 (by
  obtain ⟨k1, k2⟩ := mvOk_at h4
  exact mvOk_of (fun i hi => k1 i (hL i hi)) fun i hi j hj => k2 i (hL i hi) j (hL j hj))
theorem Goes.mxq {X : Prop} {lim n0 : Nat} {st s : St} (x : X) (V H : List Nat) (ps : List (Nat × Nat)) (L : List Nat) (hL : ∀ i ∈ idsV (pickL V st.vars) ++ idsH (pickL H st.heap), i ∈ L) (h1 : X → (⟨mvV (mvF ps) (pickL V st.vars), mvH (mvF ps) (pickL H st.heap), s.nx⟩ : St) = s := by intro x; first | with_reducible rfl | (simp only [x, go_sem, Nat.reduceBEq, Nat.reduceAdd, Bool.false_and, Bool.true_or, Bool.and_false]; done) | (simp only [x, go_sem, Nat.reduceBEq, Nat.reduceAdd, Bool.false_and, Bool.true_or, Bool.and_false]; with_reducible rfl) | (simp only [x, go_sem, Nat.reduceBEq, Nat.reduceAdd, Bool.false_and, Bool.true_or, Bool.and_false]; rfl))
  (h2 : n0 ≤ s.nx := by exact Nat.le_of_ble_eq_true rfl) (h3 : s.nx ≤ lim := by exact Nat.le_of_ble_eq_true rfl) (h4 : mvOk ps n0 s.nx L = true := by kernel_rfl) : Goes lim n0 st s := .mvS V H ps L hL (h1 x) h2 h3 h4
theorem Goes.blk {lim n0 : Nat} {st s : St} (id : Nat) (blk blk' : Blk) (hd : getL st.heap id = some blk) (hw : ∀ C : Cx, C.rf = true → holds C id blk → holds C id blk') (h : Goes lim n0 ⟨st.vars, put st.heap id blk', st.nx⟩ s) : Goes lim n0 st s := by
 intro E n F a w g hE hF hR
 obtain ⟨h1, h2, h3⟩ := hF
 have hid : F.hp id = some blk := by rw [h2]; exact hd
 have hp : ∀ i, getL (put st.heap id blk') i = if id = i then some blk' else F.hp i := by
  intro i; rw [getL_put, h2]
 have hne : ∀ i, getL (put st.heap id blk') i ≠ none ↔ F.hp i ≠ none := by
  intro i
  rw [hp]
  by_cases e : id = i
  ·subst e; simp [hid]
  ·rw [if_neg e]
 have hown : ownB g (getL (put st.heap id blk')) = ownB g F.hp := by
  funext b
  apply propext
  constructor
  ·rintro ⟨i, o, k1, k2⟩; exact ⟨i, o, (hne i).1 k1, k2⟩
  ·rintro ⟨i, o, k1, k2⟩; exact ⟨i, o, (hne i).2 k1, k2⟩
 have hcx : cx w g (getL (put st.heap id blk')) = cx w g F.hp := by simp only [cx, hown]
 refine h E n ⟨F.rd, getL (put st.heap id blk'), F.nu⟩ a w g hE ⟨h1, rfl, h3⟩ ⟨hR.sz, hR.df, fun t => by rw [hcx]; exact hR.rd t, ⟨fun i blk2 hb => ?_, fun i i' b o o' k1 k2 => hR.mem.inj i i' b o o' ((hne i).1 k1) ((hne i').1 k2), fun i hi => ?_, ?_, hR.mem.fl⟩, fun i b o k1 => hR.base i b o ((hne i).1 k1), hR.keep, hR.gz, hR.gs, hR.nu⟩
 ·have hb : getL (put st.heap id blk') i = some blk2 := hb
  rw [hcx]
  rw [hp] at hb
  by_cases e : id = i
  ·subst e
   rw [if_pos rfl] at hb
   cases hb
   exact hw _ rfl (hR.mem.hd id _ hid)
  ·rw [if_neg e] at hb
   exact hR.mem.hd i blk2 hb
 ·obtain ⟨k1, k2⟩ := hR.mem.nw i hi
  refine ⟨k1, ?_⟩
  rcases Classical.em (getL (put st.heap id blk') i = none) with e | e
  ·exact e
  ·exact absurd k2 ((hne i).1 e)
 ·rw [hown]; exact hR.mem.zs
theorem Goes.pf {lim n0 : Nat} {st s : St} (id : Nat) {e s' : Nat} {p : Bool} {items : List D} (hd : getL st.heap id = some (.arr e s' p items)) (h : Goes lim n0 ⟨st.vars, put st.heap id (.arr e s' false items), st.nx⟩ s) : Goes lim n0 st s :=
 .blk id _ _ hd (fun _ hC h => arr_weak hC (fun h => by cases h) h) h
theorem Goes.sub {lim n0 : Nat} {st s : St} (V H : List Nat) (h1 : (⟨pickL V st.vars, pickL H st.heap, s.nx⟩ : St) = s := by first | with_reducible rfl | rfl | (simp only [go_sem, Nat.reduceBEq, Nat.reduceAdd]; rfl)) (hn : st.nx ≤ s.nx := by exact Nat.le_of_ble_eq_true rfl) : Goes lim n0 st s :=
 fun _ _ _ _ _ g _ hF hR => by
  obtain ⟨F', h2, h3⟩ := hR.sub hF (sub_of V H st hn)
  rw [h1] at h2
  exact ⟨F', g, h2, h3⟩
end Go.Tm
end
section
namespace Go.Tm
open Go.RowKit Go.WideShapes
section
variable {fr : Nat} {w : World} {g : Gh} {hp : Nat → Option Blk}
theorem rep_give_in (hd : ∀ id blk, hp id = some blk → holds (cx w g hp) id blk) (ho : ∀ b, ownB g hp b → fr ≤ b) {id si n ei : Nat} {oc : Option Nat} {items : List D} (hb : hp id = some (.arr ei si true items)) (hn : n = items.length) (hpl : plL items = true) (v : Value) (h : rep (cx w g hp) (.ref id si 0 n oc) v)
  (C : Cx) (hw : C.w = w) (hM : ∀ b, ¬ C.M b) (hZ : ∀ b, fr ≤ b → C.Z b) : rep C (.imm si items 4) v := by
 simp only [rep] at h ⊢
 obtain ⟨_, ad, cap, rfl, h1, h2, h3, _, h4⟩ := h
 subst hn
 refine ⟨ad, cap, rfl, h1, h2, by simp, by simp, by simp, h3, by simp, ?_⟩
 by_cases hz0 : items = []
 ·exact .inl hz0
 right
 intro Z hZ'
 have hZe : Z = C.Z := by
  have : (some C.Z : Option (Nat → Prop)) = some Z := hZ'
  exact (Option.some.inj this).symm
 subst hZe
 rcases h4 with h4 | ⟨b, T, nn, hσ, rfl, hsh, hn⟩
 ·exact absurd (List.length_eq_zero_iff.1 (by omega)) hz0
 rcases hd id _ hb with ⟨e, _⟩ | ⟨b', cs, hσ', hblk, hsz, hel⟩
 ·exact absurd e hz0
 have e := hσ'.symm.trans hσ
 simp only [Option.some.injEq, Prod.mk.injEq] at e
 obtain ⟨rfl, _⟩ := e
 refine ⟨_, rfl, rfl, hM _, hZ _ (ho _ ⟨id, 0, by rw [hb]; simp, hσ⟩), by rw [hw]; exact (Array.getElem?_eq_some_iff.1 hblk).1, ?_⟩
 have := elems_pl (C' := C.at C.Z) (by exact hw) items b' 0 si hpl hel
 rw [Nat.zero_mul]
 exact this
theorem elems_give {α : Type} (f : α → D) (hf : ∀ l : List α, plL (l.map f) = true) (hd : ∀ id blk, hp id = some blk → holds (cx w g hp) id blk) (ho : ∀ b, ownB g hp b → fr ≤ b) (si ei : Nat) (C : Cx) (hw : C.w = w) (hM : ∀ b, ¬ C.M b) (hZ : ∀ b, fr ≤ b → C.Z b) : ∀ (ls : List (List α)) (F b o s : Nat), (∀ i, i < ls.length → hp (F + i) = some (.arr ei si true ((ls.getD i []).map f))) → elems (cx w g hp) (qrefs si F (ls.map List.length)) b o s → elems C (ls.map fun l => .imm si (l.map f) 4) b o s
 | [], _, _, _, _, _, _ => by simp only [List.map_nil, elems]
 | l :: ls, F, b, o, s, hin, h => by
  simp only [List.map_cons, qrefs, elems] at h ⊢
  obtain ⟨⟨v, h1, h2, h3, h4⟩, h5⟩ := h
  have h0 := hin 0 (by simp)
  refine ⟨⟨v, rep_give_in hd ho h0 (by simp) (hf l) v h1 C hw hM hZ, h2, h3, by rw [hw]; exact h4⟩, ?_⟩
  refine elems_give f hf hd ho si ei C hw hM hZ ls (F + 1) b (o + s) s (fun i hi => ?_) h5
  have := hin (i + 1) (by simpa using hi)
  rw [show F + 1 + i = F + (i + 1) by omega]
  exact this
end
def FrzR (hp : Nat → Option Blk) (d d' : D) : Prop := ∀ (fr : Nat) (w : World) (g : Gh), (∀ id blk, hp id = some blk → holds (cx w g hp) id blk) → g.zn 1 = some (fun b => fr ≤ b) → (∀ b, ownB g hp b → fr ≤ b) → ∀ v, rep (cx w g hp) d v → rep (cx0 w fr) d' v
def FrzRs (hp : Nat → Option Blk) (l l' : List D) : Prop := ∀ (fr : Nat) (w : World) (g : Gh), (∀ id blk, hp id = some blk → holds (cx w g hp) id blk) → g.zn 1 = some (fun b => fr ≤ b) → (∀ b, ownB g hp b → fr ≤ b) → ∀ vs, reps (cx w g hp) l vs → reps (cx0 w fr) l' vs
theorem FrzR.of {hp : Nat → Option Blk} {d d' : D} (h : frz hp d = (d', true)) : FrzR hp d d' := fun _ _ _ hd hz ho v hv => by
 have h1 : d' = (frz hp d).1 := by rw [h]
 rw [h1]
 exact frz_ok hd hz ho d v hv (by rw [h])
theorem FrzRs.nil {hp : Nat → Option Blk} : FrzRs hp [] [] := fun _ _ _ _ _ _ vs h => by simp only [reps] at h ⊢; exact h
theorem FrzRs.cons {hp : Nat → Option Blk} {d d' : D} {l l' : List D} (h : FrzR hp d d') (hl : FrzRs hp l l') : FrzRs hp (d :: l) (d' :: l') := fun fr w g hd hz ho vs hv => by
 simp only [reps] at hv ⊢
 obtain ⟨v, vs', rfl, h1, h2⟩ := hv
 exact ⟨v, vs', rfl, h fr w g hd hz ho v h1, hl fr w g hd hz ho vs' h2⟩
theorem FrzR.agg {hp : Nat → Option Blk} {l l' : List D} (h : FrzRs hp l l') : FrzR hp (.agg l) (.agg l') := fun fr w g hd hz ho v hv => by
 simp only [rep] at hv ⊢
 obtain ⟨cs, rfl, h1⟩ := hv
 exact ⟨cs, rfl, h fr w g hd hz ho cs h1⟩
theorem FrzR.tup {hp : Nat → Option Blk} {l l' : List D} (h : FrzRs hp l l') : FrzR hp (.tuple l) (.tuple l') := fun fr w g hd hz ho v hv => by
 simp only [rep] at hv ⊢
 obtain ⟨cs, rfl, h1⟩ := hv
 exact ⟨cs, rfl, h fr w g hd hz ho cs h1⟩
theorem FrzR.nest {α : Type} {f : α → D} (hf : ∀ l : List α, plL (l.map f) = true) {hp : Nat → Option Blk} {id s e n F si ei : Nat} {oc : Option Nat} {ls : List (List α)} (hb : hp id = some (.arr e s false (qrefs si F (ls.map List.length)))) (hn : n = ls.length) (hin : ∀ i, i < ls.length → hp (F + i) = some (.arr ei si true ((ls.getD i []).map f))) :
  FrzR hp (.ref id s 0 n oc) (.imm s (ls.map fun l => .imm si (l.map f) 4) 12) := fun fr w g hd hz ho v h => by
 simp only [rep] at h ⊢
 obtain ⟨_, ad, cap, rfl, h1, h2, h3, _, h4⟩ := h
 subst hn
 refine ⟨ad, cap, by simp, by simpa using h1, h2, by simp, by simp, by simp, h3, fun _ => rfl, ?_⟩
 by_cases hz0 : ls = []
 ·left; subst hz0; rfl
 right
 intro Z hZ'
 have hZe : (fun b => fr ≤ b) = Z := by simpa [Cx.zone, cx0] using hZ'
 subst hZe
 have hl : 0 < ls.length := List.length_pos_iff.2 hz0
 rcases h4 with h4 | ⟨b, T, nn, hσ, rfl, hsh, hn⟩
 ·omega
 rcases hd id _ hb with ⟨e, _⟩ | ⟨b', cs, hσ', hblk, hsz, hel⟩
 ·have := congrArg List.length e
  rw [qrefs_len, List.length_map, List.length_nil] at this
  omega
 have e := hσ'.symm.trans hσ
 simp only [Option.some.injEq, Prod.mk.injEq] at e
 obtain ⟨rfl, _⟩ := e
 refine ⟨_, rfl, rfl, fun h => h, ho _ ⟨id, 0, by rw [hb]; simp, hσ⟩, (Array.getElem?_eq_some_iff.1 hblk).1, ?_⟩
 rw [Nat.zero_mul]
 exact elems_give f hf hd ho si ei ((cx0 w fr).at fun b => fr ≤ b) rfl (fun _ h => h) (fun _ h => h) ls F b' 0 s hin hel
theorem callP_frzR {P : Program} {K : FuncId} {args : List D} {r r' : D} {eff : List (Nat × Option Blk)} {nw : Nat × Nat} (hr : FrzR (effH (fun _ => none) eff) r r') (hk : okM new1 r' = true) (h : CallH P K args [] r eff nw) : CallP P K args r' := by
 refine ⟨h.1, fun w vs hvs => ?_⟩
 let g : Gh := ⟨fun _ => none, fun _ => True, fun m => if m = 1 then some (fun x => w.heap.size ≤ x) else if m = 2 then some (fun x => x < w.heap.size) else none⟩
 have hM : Mem w.heap.size w g (fun _ => none) (fun _ => true) := by
  refine ⟨(fun id blk h => by cases h), fun id id' b o o' h => absurd rfl h, fun id _ => ⟨rfl, rfl⟩, ⟨fun _ _ => trivial, ⟨_, rfl, fun x hx => ⟨hx, trivial⟩, fun x hx => hx⟩, ⟨_, rfl, fun x hx => ⟨hx, trivial⟩⟩, ?_⟩, Nat.le_refl _⟩
  intro m Zm hm hz
  have : g.zn m = none := by
   simp only [g]
   rw [if_neg (by omega), if_neg (by omega)]
  rw [this] at hz; cases hz
 have hle : Cx.Le (cx0 w w.heap.size) (cx w g fun _ => none) := by
  refine ⟨fun m _ Z' hZ' => ⟨Z', hZ', fun b _ k2 k3 => ⟨?_, k2, .refl k3⟩⟩, fun _ _ => rfl, fun _ => rfl, (fun x => by cases x), (fun x => by cases x)⟩
  rintro ⟨id, o, h1, _⟩
  exact h1 rfl
 refine (h.2 w.heap.size w g (fun _ => none) (fun _ => true) vs hM (fun id b h => by cases h) (fun _ _ _ => rfl) (reps_le hle _ _ hvs)).mono ?_
 rintro ee w' ⟨v, g', he, ha⟩
 refine ⟨v, he, ha.keep.mono ?_, hk, ?_⟩
 ·rintro i _ ⟨id, o, h1, _⟩
  exact h1 rfl
 refine hr w.heap.size w' g' ha.mem.hd ?_ (fun b hb => ?_) v ha.res
 ·rw [ha.gz.2]; rfl
 ·rcases ha.own b hb with h | ⟨id, o, h, _⟩
  ·exact h
  ·exact absurd rfl h
end Go.Tm
end
section
namespace Go.Proofs
open Go.Tm Go.RowKit Go.WideShapes
set_option maxRecDepth 100000
set_option maxHeartbeats 4000000
set_option linter.unusedSimpArgs false
set_option linter.unusedVariables false
attribute [local go_sem] argVars runE runK isCallV stepE aop opd opdsL opds opdO ev ofVal keep List.any natbeq Bool.false_or Bool.true_or aggEq cond_true cond_false Bool.cond_false_right Bool.cond_true_left beq_true beq_false imp_self implies_true getR getL put St.app effL del nwB blt_dec Nat.lt_irrefl Nat.lt_add_one ble_dec Nat.le_refl Nat.beq_refl roomNZ appendIn capS capK mkZ_zero mkZL_zero zeroEl D.ids D.idsL bin arith sarith binT dpick Tm.part splice fillD oneD loadD storeD srcD sliceD idxOk decide_true gval dstAt D.cells List.map_cons List.map_nil List.take List.drop List.length_map List.append Int.toNat_natCast and_true true_and decide_false List.length_cons List.length_nil List.append_nil List.nil_append Bool.and_true Bool.true_and Bool.not_false Bool.not_true ne_eq not_false_eq_true BEq.rfl List.getElem?_cons_zero List.getElem?_cons_succ List.getElem?_nil Nat.zero_add List.all_cons List.all_nil List.isEmpty_cons List.isEmpty_nil Option.getD_some Option.getD_none List.any_cons List.any_nil List.drop_succ_cons List.drop_zero unfL unf okM okML low3 List.cons_append true_or or_true Nat.zero_mul Nat.zero_le findD_int findD_str  getD_int getD_str getD_bool Option.isSome_map keyD List.length_replicate List.map_replicate setEl List.length_set bytesD_map map_ub mx_len mkZ_one mkZL_one mkM mkML mk1_int mk1_str mk1_bool drop_map take_map take_map_len List.take_length Int.toNat_zero toNat_pred fpOf metIds opIds mvV mvH mvF pickL D.ren D.renL Blk.ren List.map_append List.length_append Bool.not_not Bool.or_not_self Bool.not_or_self Bool.or_true
attribute [local go_sem] Try.tm_1 Try.tm_2 Try.tm_3 Try.tm_4 Try.tm_5 Try.tm_6 Try.tm_7 Try.tm_8 Try.tm_9 Try.tm_10 Try.tm_11 Try.tm_12 Try.tm_13 Try.tm_14 Try.tm_15 Try.tm_16 Try.tm_17 Try.tm_18 Try.tm_19 Try.tm_20 Try.tm_21 Try.tm_22 Try.tm_23 Try.tm_24 Try.tm_25 Try.tm_26 Try.tm_27 Try.tm_28 Try.tm_29 Try.tm_30 Try.tm_32 Try.tm_33 Try.tm_34 Try.tm_35 Try.tm_36 Try.tm_37 Try.tm_39 Try.tm_40 Try.tm_41 Try.tm_43 Try.tm_45 Try.tm_46 Try.tm_47 Try.tm_48 Try.tm_49 Try.tm_50 Try.tm_51 Try.tm_52 Try.tm_53 Try.tm_55 Try.tm_57 Try.tm_58 Try.tm_60 Try.tm_61 Try.tm_63 Try.tm_64 Try.tm_65 Try.tm_66 Try.tm_67 Try.tm_68 Try.tm_69 Try.tm_70 Try.tm_71 Try.tm_72 Try.tm_73 Try.tm_74 Try.tm_76 Try.tm_77 Try.tm_78 Try.tm_79 Try.tm_80 Try.tm_81 Try.tm_82 Try.tm_83 Try.tm_84 Try.tm_85 Try.tm_86 Try.tm_87 Try.tm_89 Try.tm_91 Try.tm_92 Try.tm_93 Try.tm_94 Try.tm_95 Try.tm_96 Try.tm_98 Try.tm_99 Try.tm_101 Try.tm_103 Try.tm_104 Try.tm_105 Try.tm_106 Try.tm_107 Try.tm_108 Try.tm_109 Try.tm_110 Try.tm_111 Try.tm_112 Try.tm_113 Try.tm_114 Try.tm_115 Try.tm_116 Try.tm_117 Try.tm_118 Try.tm_119 Try.tm_120 Try.tm_121 Try.tm_123 Try.tm_124 Try.tm_125 Try.tm_126 Try.tm_127 Try.tm_128 Try.tm_129 Try.tm_130 Try.tm_132 Try.tm_134 Try.tm_135 Try.tm_136 Try.tm_137 Try.tm_138 Try.tm_139 Try.tm_140 Try.tm_143 Try.tm_144 Try.tm_145 Try.tm_146 Try.tm_147 Try.tm_148 Try.tm_149 Try.tm_150 Try.tm_151 dL_str nL_str TVote.d TSeen.d TStable.d TStable.n TRecord.d mk1_dL_str mk1_TVote mk1_TSeen mk1_TStable mk1_TRecord Try.f86 Try.f70 Try.f69 Try.f38 Try.f39 Try.f68 Try.f35 Try.f36 Try.f37 Try.f61 Try.f33 Try.f11 Try.f23 Try.f13 Try.f46 Try.f45 Try.f17 Try.f52 Try.f53 Try.f51 Try.f20 Try.f49 Try.f40 Try.f50 Try.f48 Try.f19 Try.f24 Try.f12 Try.f47 Try.f18 Try.f41 Try.f44 Try.f16 Try.f22 Try.f9 Try.f83 Try.f64 Try.f65 Try.f72 Try.f42 Try.f43
attribute [local go_sem] qrefs
abbrev LL := List (List (List UInt8))
def inb (ls : LL) (k : Nat) : Blk := .arr 9 1 true ((ls.getD k []).map D.str)
def outb (F : Nat) (ls : LL) : Blk := .arr 34 1 false (qrefs 1 F (ls.map List.length))
theorem hrenQ (ps : List (Nat × Nat)) (F G : Nat) (ls : LL) (h4 : ls.length ≤ 4) (hp : mvF ps F = G ∧ mvF ps (F + 1) = G + 1 ∧ mvF ps (F + 2) = G + 2 ∧ mvF ps (F + 3) = G + 3) : D.renL (mvF ps) (qrefs 1 F (ls.map List.length)) = qrefs 1 G (ls.map List.length) := by
 refine qrefs_ren 1 (mvF ps) _ F G fun i hi => ?_
 rw [List.length_map] at hi
 obtain ⟨p0, p1, p2, p3⟩ := hp
 rcases (by omega : i = 0 ∨ i = 1 ∨ i = 2 ∨ i = 3) with rfl | rfl | rfl | rfl
 ·exact p0
 ·exact p1
 ·exact p2
 ·exact p3
def Try.St_QT1 (v1 : List TSeen) (l1 : LL) : St := ⟨[(2, .ptr 20001 0), (3, .ptr 20006 0)], [(20001, .box [.imm 0 [] 0, .imm 0 [] 0]), (20003, .arr 67 5 true (v1.map TSeen.d)), (20006, .box [.ref 20007 1 0 l1.length (some unkC), .ref 20003 5 0 v1.length (some unkC)]), (20007, outb 20008 l1), (20008, inb l1 0), (20009, inb l1 1), (20010, inb l1 2), (20011, inb l1 3)], 20012⟩
attribute [local go_sem] Try.St_QT1
def Try.St_QT3 (a0 : TStable) (v1 : List TSeen) (n1 : Nat) (l2 : LL) : St := ⟨[(2, .ptr 20001 0), (3, .ptr 20006 0), (11, .imm 1 (a0.Logs.map dL_str) 4), (12, .int .i64 (a0.Logs.length : Int)), (13, .int .i64 (n1 : Int))], [(20001, .box [.imm 0 [] 0, .imm 0 [] 0]), (20003, .arr 67 5 true (v1.map TSeen.d)), (20006, .box [.ref 20007 1 0 l2.length (some unkC), .ref 20003 5 0 v1.length (some unkC)]), (20007, outb 20008 l2), (20008, inb l2 0), (20009, inb l2 1), (20010, inb l2 2), (20011, inb l2 3)], 20012⟩
attribute [local go_sem] Try.St_QT3 outb inb
theorem callH_stable_TwinQ (a0 : TStable) (r : TStable) (h4 : a0.Logs.length ≤ 4) (h : m_stable_Twin a0 = some r) : CallH Try.prog 17 [.agg [.imm 1 (a0.Logs.map dL_str) 4, .imm 5 (a0.Votes.map TSeen.d) 4]] [] (.agg [.ref 20001 1 0 r.Logs.length (some unkC), .ref 20002 5 0 r.Votes.length (some unkC)]) [(20001, some (outb 20010 r.Logs)), (20002, some (.arr 67 5 true (r.Votes.map TSeen.d))), (20010, some (inb r.Logs 0)), (20011, some (inb r.Logs 1)), (20012, some (inb r.Logs 2)), (20013, some (inb r.Logs 3))] (20000, 20060) := by
 refine callH_intro' Try.tmOk Try.func17 rfl (by decide) (Nat.le_of_ble_eq_true rfl) (by simp) ?_
 intro hwf
 unfold m_stable_Twin at h
 refine .ends 20000 (Nat.le_refl _) ?_
 refine .seq ?_
 refine .pl Try.S [0] ?_
 refine .seq ?_
 obtain ⟨v1, hv1, h⟩ := bind_some h
 refine .rg Try.S [1, 2] ?_
 refine .rn 2 ?_
 refine .ncall (r := .ref 20003 5 0 v1.length (some unkC)) (eff := [(20003, some (.arr 67 5 true (v1.map TSeen.d)))]) (nw := (20003, 20006)) [] rfl rfl rfl rfl rfl (lend2s_cons rfl lend2s_nil) rfl (callH_at 20003 (Nat.le_of_ble_eq_true rfl) (callH_slices_Clone_Seen_Seen a0.Votes v1 hv1)) (newE_cons rfl rfl (newB_arr pl0_TSeen _ _ _) newE_nil) (by intro i hi; simp [D.ids, D.idsL] at hi <;> omega) rfl ⟨Nat.le_of_ble_eq_true rfl, Nat.le_of_ble_eq_true rfl⟩ ?_
 refine .rn 3 ?_
 refine .nil ⟨nofun, ?_⟩
 obtain ⟨x1, hx1, h⟩ := bind_some h
 refine .seqM 20007 (fun (j : LL) => Try.St_QT1 v1 j) (fun j => j.length ≤ a0.Logs.length ∧ x1 = j) (Nat.le_of_ble_eq_true rfl) ?_ ?_
 ·skip
  refine .seq ?_
  refine .pl Try.S [1, 2, 3] ?_
  refine .block ?_
  refine .loopG 20007 (fun (j : Nat × LL) => Try.St_QT3 a0 v1 j.1 j.2) (fun j => j.1 ≤ a0.Logs.length ∧ j.2.length = j.1 ∧ m_stable_Twin_loop1 (a0.Logs.drop j.1) j.2 = some x1) (fun j => a0.Logs.length - j.1) (0, []) (Nat.le_of_ble_eq_true rfl) ?_ ⟨Nat.zero_le _, rfl, hx1⟩ ?_
  ·skip
   refine Goes.new0 1 34 (Nat.le_of_ble_eq_true rfl) ?_
   refine Goes.boxs 20006 _ [.ref 20007 1 0 0 (some unkC), .ref 20003 5 0 v1.length (some unkC)] rfl (.cons (.own0 20007 _ _ _ (by decide)) (.refl _)) ?_
   refine Goes.pf 20007 rfl ?_
   refine Goes.new0 1 9 (Nat.le_of_ble_eq_true rfl) ?_
   refine Goes.new0 1 9 (Nat.le_of_ble_eq_true rfl) ?_
   refine Goes.new0 1 9 (Nat.le_of_ble_eq_true rfl) ?_
   refine Goes.new0 1 9 (Nat.le_of_ble_eq_true rfl) ?_
   exact .sub [2, 3, 11, 12, 13] [20001, 20003, 20006, 20007, 20008, 20009, 20010, 20011]
  rintro ⟨n1, l2⟩ ⟨hi1, hl2, hx1⟩
  simp only [Try.St_QT3]
  simp only at hi1 hl2 hx1
  refine .wf 12 (.int .i64 (a0.Logs.length : Int)) rfl ?_
  intro hln1
  replace hln1 : (a0.Logs.length : Int) ≤ 9223372036854775807 := by omega
  refine .seq ?_
  refine .pl Try.S [2, 3, 11, 12, 13] ?_
  refine .seq ?_
  refine .cond rfl rfl (fun hc1 => ?_) (fun hc1 => ?_)
  ·skip
   have h1 : n1 < a0.Logs.length := by simpa using hc1
   have hwn1 : wr .i64 ((n1 : Int) + 1) = ((n1 + 1 : Nat) : Int) := wr_succ h1 hln1
   have hpn1 : wr .i64 ((n1 : Int) - 1) = (n1 : Int) - 1 := wr_pred h1 hln1
   rw [List.drop_eq_getElem_cons h1, m_stable_Twin_loop1_c] at hx1
   refine .skip ?_
   refine .seq ?_
   refine .block ?_
   refine .seq ?_
   have e1 := nth_map dL_str a0.Logs n1 h1
   refine .plx Try.S (And.intro e1 hwn1) [2, 3, 11, 12, 13] ?_
   obtain ⟨v2, hv2, hx1⟩ := bind_some hx1
   obtain ⟨k1, hx1⟩ := ite_ck hx1
   rcases l2 with _ | ⟨b0, _ | ⟨b1, _ | ⟨b2, _ | ⟨b3, bs⟩⟩⟩⟩
   ·skip
    refine .rg Try.S [2, 3, 5, 11, 12, 13] ?_
    refine .rdx 3 hwn1 ?_
    refine .ncall (r := .ref 20012 1 0 v2.length (some unkC)) (eff := [(20012, some (.arr 9 1 true (v2.map D.str)))]) (nw := (20012, 20015)) [] rfl rfl rfl rfl rfl (lend2s_cons rfl lend2s_nil) rfl (callH_at 20012 (Nat.le_of_ble_eq_true rfl) (callH_slices_Clone_string_string (a0.Logs[n1]) v2 hv2)) (newE_cons rfl rfl (newB_arr pl0_str _ _ _) newE_nil) (by intro i hi; simp [D.ids, D.idsL] at hi <;> omega) rfl ⟨Nat.le_of_ble_eq_true rfl, Nat.le_of_ble_eq_true rfl⟩ ?_
    refine .rdx 4 hwn1 ?_
    refine .nil ⟨fun _ => schedB_of (by kernel_rfl), ?_⟩
    refine .plx Try.S hwn1 [2, 3, 11, 12, 13] ?_
    refine ⟨(n1 + 1, _), ?_, ⟨by omega, by dsimp only; simp at hl2 ⊢; omega, hx1⟩, by dsimp only; omega⟩
    exact .m [2, 3, 11, 12, 13] [20001, 20003, 20006, 20016, 20012, 20009, 20010, 20011] [(20016, 20007), (20012, 20008)]
   ·skip
    refine .rg Try.S [2, 3, 5, 11, 12, 13] ?_
    refine .rdx 3 hwn1 ?_
    refine .ncall (r := .ref 20012 1 0 v2.length (some unkC)) (eff := [(20012, some (.arr 9 1 true (v2.map D.str)))]) (nw := (20012, 20015)) [] rfl rfl rfl rfl rfl (lend2s_cons rfl lend2s_nil) rfl (callH_at 20012 (Nat.le_of_ble_eq_true rfl) (callH_slices_Clone_string_string (a0.Logs[n1]) v2 hv2)) (newE_cons rfl rfl (newB_arr pl0_str _ _ _) newE_nil) (by intro i hi; simp [D.ids, D.idsL] at hi <;> omega) rfl ⟨Nat.le_of_ble_eq_true rfl, Nat.le_of_ble_eq_true rfl⟩ ?_
    refine .rdx 4 hwn1 ?_
    refine .nil ⟨fun _ => schedB_of (by kernel_rfl), ?_⟩
    refine .plx Try.S hwn1 [2, 3, 11, 12, 13] ?_
    refine ⟨(n1 + 1, _), ?_, ⟨by omega, by dsimp only; simp at hl2 ⊢; omega, hx1⟩, by dsimp only; omega⟩
    exact .m [2, 3, 11, 12, 13] [20001, 20003, 20006, 20016, 20008, 20012, 20010, 20011] [(20016, 20007), (20012, 20009)]
   ·skip
    refine .rg Try.S [2, 3, 5, 11, 12, 13] ?_
    refine .rdx 3 hwn1 ?_
    refine .ncall (r := .ref 20012 1 0 v2.length (some unkC)) (eff := [(20012, some (.arr 9 1 true (v2.map D.str)))]) (nw := (20012, 20015)) [] rfl rfl rfl rfl rfl (lend2s_cons rfl lend2s_nil) rfl (callH_at 20012 (Nat.le_of_ble_eq_true rfl) (callH_slices_Clone_string_string (a0.Logs[n1]) v2 hv2)) (newE_cons rfl rfl (newB_arr pl0_str _ _ _) newE_nil) (by intro i hi; simp [D.ids, D.idsL] at hi <;> omega) rfl ⟨Nat.le_of_ble_eq_true rfl, Nat.le_of_ble_eq_true rfl⟩ ?_
    refine .rdx 4 hwn1 ?_
    refine .nil ⟨fun _ => schedB_of (by kernel_rfl), ?_⟩
    refine .plx Try.S hwn1 [2, 3, 11, 12, 13] ?_
    refine ⟨(n1 + 1, _), ?_, ⟨by omega, by dsimp only; simp at hl2 ⊢; omega, hx1⟩, by dsimp only; omega⟩
    exact .m [2, 3, 11, 12, 13] [20001, 20003, 20006, 20016, 20008, 20009, 20012, 20011] [(20016, 20007), (20012, 20010)]
   ·skip
    refine .rg Try.S [2, 3, 5, 11, 12, 13] ?_
    refine .rdx 3 hwn1 ?_
    refine .ncall (r := .ref 20012 1 0 v2.length (some unkC)) (eff := [(20012, some (.arr 9 1 true (v2.map D.str)))]) (nw := (20012, 20015)) [] rfl rfl rfl rfl rfl (lend2s_cons rfl lend2s_nil) rfl (callH_at 20012 (Nat.le_of_ble_eq_true rfl) (callH_slices_Clone_string_string (a0.Logs[n1]) v2 hv2)) (newE_cons rfl rfl (newB_arr pl0_str _ _ _) newE_nil) (by intro i hi; simp [D.ids, D.idsL] at hi <;> omega) rfl ⟨Nat.le_of_ble_eq_true rfl, Nat.le_of_ble_eq_true rfl⟩ ?_
    refine .rdx 4 hwn1 ?_
    refine .nil ⟨fun _ => schedB_of (by kernel_rfl), ?_⟩
    refine .plx Try.S hwn1 [2, 3, 11, 12, 13] ?_
    refine ⟨(n1 + 1, _), ?_, ⟨by omega, by dsimp only; simp at hl2 ⊢; omega, hx1⟩, by dsimp only; omega⟩
    exact .m [2, 3, 11, 12, 13] [20001, 20003, 20006, 20016, 20008, 20009, 20010, 20012] [(20016, 20007), (20012, 20011)]
   ·exact absurd hl2 (by simp only [List.length_cons]; omega)
  ·skip
   have h2 : n1 = a0.Logs.length := by have h2b := of_decide_eq_false hc1; omega
   rw [List.drop_of_length_le (by omega), m_stable_Twin_loop1_n] at hx1
   refine .exit ?_
   refine ⟨_, ?_, by omega, (Option.some.inj hx1).symm⟩
   exact .sub [2, 3] [20001, 20003, 20006, 20007, 20008, 20009, 20010, 20011]
 ·skip
  rintro l1 ⟨hl1, hj1⟩
  subst x1
  try dsimp only at h
  simp only [Try.St_QT1]
  refine .seq ?_
  refine .pl Try.S [2, 3] ?_
  have hq := Option.some.inj h
  subst r
  have ho : ∀ F ls, outb F ls = .arr 34 1 false (qrefs 1 F (ls.map List.length)) := fun _ _ => rfl
  have h4' : l1.length ≤ 4 := by omega
  refine .ret ⟨⟨[(2, .ptr 20020 0)], [(20002, .arr 67 5 true (v1.map TSeen.d)), (20020, .box [.ref 20001 1 0 l1.length (some unkC), .ref 20002 5 0 v1.length (some unkC)]), (20001, outb 20010 l1), (20010, inb l1 0), (20011, inb l1 1), (20012, inb l1 2), (20013, inb l1 3)], 20030⟩, ?_, .inr rfl, retH [20013, 20012, 20011, 20010, 20002, 20001] ?_ ?_⟩
  ·skip
   exact .mxq (And.intro (hrenQ [(20003, 20002), (20001, 20020), (20007, 20001), (20008, 20010), (20009, 20011), (20010, 20012), (20011, 20013)] 20008 20010 l1 h4' (by decide)) (And.intro rfl rfl : (1 : Nat) = 1 ∧ (2 : Nat) = 2)) [2] [20003, 20001, 20007, 20008, 20009, 20010, 20011] [(20003, 20002), (20001, 20020), (20007, 20001), (20008, 20010), (20009, 20011), (20010, 20012), (20011, 20013)] [20003, 20001, 20007, 20008, 20009, 20010, 20011] (by intro i hi; simp only [go_sem, outb, inb, idsV, idsH, Blk.ids, D.ids, D.idsL, cond_false, cond_true, List.mem_append, List.mem_cons, List.not_mem_nil, or_false, false_or, List.nil_append, List.append_nil, List.cons_append, qrefs_mem, List.length_map, List.length_set, Nat.reduceBEq] at hi ⊢; omega)
  ·exact rsi0
  ·rfl
end Go.Proofs
end
section
namespace Go.Tm
open Go.RowKit Go.WideShapes
theorem overs_of {P : Program} {K : FuncId} {fn : Func} {t r : TypeId} (hf : P.funcs[K]? = some fn) (hname : (fn.name == "runtime.NumGoroutine") = false) (hb : fn.body.isNone = true) (hn : Extern.findNext fn = none)
  (he : Extern.find fn = some (Extern.SlicesOverlaps.overlaps #[t, t] #[r])) {ti : TI} (ht : tiChk P t ti = true) (hk : ti.kind = 3) : Overs P K := by
 intro w x y la ca lb cb cx cy Tx Ty hne hs hx hy hz
 obtain ⟨el, j, hu, hj, hj1, hj2, hj3, hj4, _, hel'⟩ := ti_slice ht hk
 subst hel'
 have hsz : ∀ w : World, (sizeOf ti.el).run P w = .ok j.size w := fun w => by simp [sizeOf, typeInfo, hj]
 obtain ⟨xb, xo, xs⟩ := x
 simp only at hs hx hne
 subst hs
 rw [run_callFunc_extern hf hname hb hn he, Go.Lib.run_overlaps_apart w t r ti.el hu j.size hsz ⟨xb, xo, none⟩ y la ca lb cb hne Tx Ty cx.size cy.size (by simp [World.shape?, hx]) (by simp [World.shape?, hy]) hz (by simp [World.frozen?, hx]) (by simp [World.frozen?, hx])]
 rfl
theorem callH_capW {P : Program} {K : FuncId} {i k s n m : Nat} {e s' : Nat} {p p' : Bool} {l l' : List D} {post : List D} {H : List (Nat × Blk)} (hE : Enters P K) (hH : getL H i = some (.arr e s p l)) (hik : i ≠ k) (hm0 : 0 < m ∨ 0 < n)
  (hin : ∀ c, capK c = true → n ≤ c → m ≤ c → CallH P K (.ref i s 0 n (some c) :: post) H (.ref i s 0 m (some c)) [(i, some (.arr e s' p' l'))] (k, k))
  (hout : ∀ c, capK c = true → n ≤ c → c < m → CallH P K (.ref i s 0 n (some c) :: post) H (.ref k s 0 m none) [(k, some (.arr e s' p' l')), (i, none)] (k, k + 1)) :
  CallH P K (.ref i s 0 n (some unkC) :: post) H (.ref k s 0 m (some unkC)) [(k, some (.arr e s' p' l')), (i, none)] (k, k + 1) := by
 refine ⟨hE, fun fr w g hp nu vs hM hHs hnw hvs => ?_⟩
 simp only [reps] at hvs
 obtain ⟨v0, vs, rfl, h0, hvs⟩ := hvs
 have h0' := h0
 simp only [rep] at h0
 obtain ⟨q1, ad, cap, rfl, q2, q3, q4, q5, q6⟩ := h0
 have hc : rep (cx w g hp) (.ref i s 0 n (some cap)) (.slice ad n cap) := by
  simp only [rep]
  exact ⟨q1, ad, cap, rfl, q2, q3, q4, ⟨fun c h _ => by cases h; rfl, fun h => by cases h⟩, q6⟩
 have hargs : reps (cx w g hp) (.ref i s 0 n (some cap) :: post) (.slice ad n cap :: vs) := by
  simp only [reps]
  exact ⟨_, _, rfl, hc, hvs⟩
 have hck : capK cap = true := Nat.ble_eq_true_of_le (by omega)
 by_cases hcase : cap < m
 ·refine ((hout cap hck q2 hcase).2 fr w g hp nu _ hM hHs hnw hargs).mono ?_
  rintro ee w' ⟨v, g', he, ha⟩
  exact ⟨v, g', he, ha.gz, ha.gs, ha.keep, ha.mem, ha.own, rep_unk ha.res rfl⟩
 ·have hq6 := q6
  rcases q6 with q6 | ⟨b1, T1, n1, z1, _, z2, z3⟩
  ·omega
  refine ((hin cap hck q2 (by omega)).2 fr w g hp nu _ hM hHs (fun id h1 h2 => by have h1 : k ≤ id := h1; have h2 : id < k := h2; omega) hargs).mono ?_
  rintro ee w' ⟨v, g', he, ha⟩
  have hki : Nat.beq k i = false := beq_ne fun e => hik e.symm
  have hnk : nu k = true := hnw k (Nat.le_refl _) (Nat.lt_succ_self _)
  have hpi : hp i = some (.arr e s p l) := hHs i _ hH
  have hni : nu i = false := by
   cases h : nu i
   ·rfl
   ·rw [(hM.nw i h).2] at hpi; cases hpi
  have hσi : g'.σ i = some (b1, 0) := (ha.gs i hni).trans z1
  let E0 : En := ⟨w', fr, fun _ => True, g', effN nu (k, k)⟩
  let F0 : FrS := ⟨fun _ => .undef, effH hp [(i, some (.arr e s' p' l'))], effN nu (k, k)⟩
  let a0 : Act := ⟨#[], []⟩
  have hR0 : Rel E0 0 F0 a0 w' g' := ⟨Nat.zero_le _, rfl, fun _ => by simp only [F0, rep], ha.mem, fun _ _ _ _ _ => .inr trivial, Keep.refl _ _, ⟨rfl, rfl⟩, fun _ _ => rfl, fun _ h => h⟩
  have hpi' : effH hp [(i, some (.arr e s' p' l'))] i = some (.arr e s' p' l') := by simp [effH, getL]
  have hnk0 : F0.nu k = true := by
   show effN nu (k, k) k = true
   simp [effN, hnk]
  obtain ⟨r1, _⟩ := Rel.made hR0 (m := k) (blk := .arr e s' p' l') (loc := some (b1, 0)) (kl := some i) (w' := w') hnk0 ((Keep.refl _ w').mono fun _ _ h => h)
   (by rintro b o h; cases h; exact .inr ⟨i, 0, rfl, by show effH hp [(i, some (.arr e s' p' l'))] i ≠ none; rw [hpi']; simp, hσi⟩)
   (by
    intro C hC hle hrf hσ
    rcases ha.mem.hd i _ hpi' with ⟨_, h⟩ | ⟨b', cs, h1, h2, h3, h4⟩
    ·have h : g'.σ i = none := h
     rw [hσi] at h; cases h
    ·have h1 : g'.σ i = some (b', 0) := h1
     rw [hσi] at h1
     simp only [Option.some.injEq, Prod.mk.injEq] at h1
     obtain ⟨rfl, _⟩ := h1
     exact .inr ⟨b1, cs, hσ, by subst hC; exact h2, h3, elems_le (C := { cx w' g' (effH hp [(i, some (.arr e s' p' l'))]) with rf := !p' }) (C' := { C with rf := !p' }) (le_rf hle rfl _ _ id) _ _ _ _ (by subst hC; rfl) h4⟩)
  have hhp : effH (effH hp [(i, some (.arr e s' p' l'))]) ((k, some (.arr e s' p' l')) :: kill (some i)) = effH hp [(k, some (.arr e s' p' l')), (i, none)] := by
   funext x
   simp only [effH, kill, getL]
   cases h1 : Nat.beq k x
   ·cases h2 : Nat.beq i x <;> simp
   ·simp
  have hnn : effN (effN nu (k, k)) (k, k + 1) = effN nu (k, k + 1) := by
   funext x
   simp only [effN]
   have : (decide (k ≤ x) && decide (x < k)) = false := by
    cases hx : decide (k ≤ x) <;> simp at hx ⊢
    omega
   rw [this]; simp
  have hmem := r1.mem
  simp only [FrS.eff, F0] at hmem
  rw [hhp, hnn] at hmem
  have hpk : effH hp [(k, some (.arr e s' p' l')), (i, none)] i = none := by simp [effH, getL, hki]
  refine ⟨v, setσ g' k (some (b1, 0)), he, ha.gz, fun id hid => ?_, ha.keep, hmem, ?_, ?_⟩
  ·have : id ≠ k := by rintro rfl; rw [hnk] at hid; cases hid
   show (if id = k then _ else g'.σ id) = g.σ id
   rw [if_neg this]
   exact ha.gs id hid
  ·rintro b0 ⟨id, o, h1, h2⟩
   have h2 : (if id = k then some (b1, 0) else g'.σ id) = some (b0, o) := h2
   by_cases hidk : id = k
   ·rw [if_pos hidk] at h2
    simp only [Option.some.injEq, Prod.mk.injEq] at h2
    obtain ⟨rfl, rfl⟩ := h2
    exact ha.own b1 ⟨i, 0, by rw [hpi']; simp, hσi⟩
   ·rw [if_neg hidk] at h2
    by_cases hidi : id = i
    ·subst hidi
     rw [hpk] at h1
     exact absurd rfl h1
    ·refine ha.own b0 ⟨id, o, ?_, h2⟩
     have a1 : Nat.beq k id = false := beq_ne fun e => hidk e.symm
     have a2 : Nat.beq i id = false := beq_ne fun e => hidi e.symm
     simp only [effH, getL, a1, a2] at h1 ⊢
     exact h1
  ·have hres := ha.res
   simp only [rep] at hres ⊢
   obtain ⟨_, ad', cap', hv, k1, k2, k3, k4, k5⟩ := hres
   have hcc := k4.1 cap rfl (Nat.ble_eq_true_of_le (by omega))
   subst hcc
   have hsh : w'.shape? b1 = some (T1, n1) := by
    have := ha.keep.shp b1 (shape_lt (w := w) z2)
    rw [this]; exact z2
   refine ⟨by simp [cx], ad', cap', hv, k1, k2, k3, ⟨(fun c h hk => by cases h; cases hk), (fun h => by cases h)⟩, ?_⟩
   rcases k5 with k5 | ⟨b, T, nn, y1, y2, y3, y4⟩
   ·exact .inl k5
   ·have y1 : g'.σ i = some (b, 0) := y1
    rw [hσi] at y1
    simp only [Option.some.injEq, Prod.mk.injEq] at y1
    obtain ⟨rfl, _⟩ := y1
    exact .inr ⟨b1, T, nn, by simp [cx, setσ], y2, y3, y4⟩
end Go.Tm
end
section
namespace Go.Proofs
open Go.Tm Go.RowKit Go.WideShapes
set_option maxRecDepth 100000
set_option linter.unusedSimpArgs false
set_option linter.unusedVariables false
attribute [local go_sem] argVars runE runK isCallV stepE aop opd opdsL opds opdO ev ofVal keep List.any natbeq Bool.false_or Bool.true_or aggEq cond_true cond_false Bool.cond_false_right Bool.cond_true_left beq_true beq_false imp_self implies_true getR getL put St.app effL del nwB blt_dec Nat.lt_irrefl Nat.lt_add_one ble_dec Nat.le_refl Nat.beq_refl roomNZ appendIn capS mkZ_zero mkZL_zero zeroEl D.ids D.idsL bin arith sarith binT dpick Tm.part splice fillD oneD loadD storeD srcD sliceD idxOk decide_true gval dstAt D.cells List.map_cons List.map_nil List.take List.drop List.length_map List.append Int.toNat_natCast and_true true_and decide_false List.length_cons List.length_nil List.append_nil List.nil_append Bool.and_true Bool.true_and Bool.not_false Bool.not_true ne_eq not_false_eq_true BEq.rfl List.getElem?_cons_zero List.getElem?_cons_succ List.getElem?_nil Nat.zero_add List.all_cons List.all_nil List.isEmpty_cons List.isEmpty_nil Option.getD_some Option.getD_none List.any_cons List.any_nil List.drop_succ_cons List.drop_zero unfL unf okM okML low3 List.cons_append true_or or_true Nat.zero_mul Nat.zero_le fpOf opIds
theorem overs84 : Overs Try.prog 84 := overs_of (r := 4) Try.func84 (by kernel_rfl) (by kernel_rfl) (by kernel_rfl) (by kernel_rfl) (Try.tmOk.1 23 (by decide)) rfl
theorem ins67e (i j k : Nat) (hij : i ≠ j) (hik : i ≠ k) (hjk : j ≠ k) (L : List D) (x : D) (P Q : Bool) (hL : L.length < 1000000) :
  CallH Try.prog 67 [.ref i 5 0 L.length (some unkC), .int .i64 (L.length : Int), .ref j 5 0 1 (some 1)] [(i, .arr 67 5 P L), (j, .arr 67 5 Q [x])] (.ref k 5 0 (L.length + 1) (some unkC)) [(k, some (.arr 67 5 (P && Q) (L ++ [x]))), (i, none)] (k, k + 1) := by
 have bij : Nat.beq i j = false := beq_ne hij
 have bik : Nat.beq i k = false := beq_ne hik
 have bjk : Nat.beq j k = false := beq_ne hjk
 have bji : Nat.beq j i = false := beq_ne (Ne.symm hij)
 have bki : Nat.beq k i = false := beq_ne (Ne.symm hik)
 have bkj : Nat.beq k j = false := beq_ne (Ne.symm hjk)
 have n10 : ¬ ((1 : Int) = 0) := by omega
 have hx : (1 : Nat) ≤ 1 := Nat.le_refl _
 refine callH_intro' Try.tmOk Try.func67 rfl (by decide) (Nat.le_of_ble_eq_true rfl) (by simp) ?_
 intro hwf
 refine .seq ?_
 refine .plain Try.tmOk Try.tmMixed [0, 1, 2] (by decide +kernel) (by intro q hq; simp only [go_sem, appendD, Nat.reduceSub, Int.reduceEq, Nat.reduceLT, Nat.reduceDiv, Nat.reduceAdd, Nat.reduceBEq, Nat.reduceLeDiff, reduceCtorEq, Nat.reduceEqDiff, Nat.reduceMod, capK, bij, bik, bjk, bji, bki, bkj]; exact hq) (by first | rfl | (simp only [go_sem, Nat.reduceLeDiff]; done) | (simp only [go_sem, Nat.reduceLeDiff]; rfl) | (simp; done) | (simp [oneD] <;> omega) | (simp_all; done) | (simp_all [oneD] <;> omega)) (by first | exact Nat.le_refl _ | exact Nat.le_of_ble_eq_true rfl | (dsimp only; omega) | (simp <;> omega)) ?_
 refine .seq ?_
 refine .plain Try.tmOk Try.tmMixed [0, 1, 2] (by decide +kernel) (by intro q hq; simp only [go_sem, appendD, Nat.reduceSub, Int.reduceEq, Nat.reduceLT, Nat.reduceDiv, Nat.reduceAdd, Nat.reduceBEq, Nat.reduceLeDiff, reduceCtorEq, Nat.reduceEqDiff, Nat.reduceMod, capK, Try.tm_23, Try.tm_3, bij, bik, bjk, bji, bki, bkj]; exact hq) (by first | rfl | (simp only [go_sem, Nat.reduceLeDiff]; done) | (simp only [go_sem, Nat.reduceLeDiff]; rfl) | (simp; done) | (simp [oneD] <;> omega) | (simp_all; done) | (simp_all [oneD] <;> omega)) (by first | exact Nat.le_refl _ | exact Nat.le_of_ble_eq_true rfl | (dsimp only; omega) | (simp <;> omega)) ?_
 refine .seq ?_
 refine .plain Try.tmOk Try.tmMixed [0, 1, 2] (by decide +kernel) (by intro q hq; simp only [go_sem, appendD, Nat.reduceSub, Int.reduceEq, Nat.reduceLT, Nat.reduceDiv, Nat.reduceAdd, Nat.reduceBEq, Nat.reduceLeDiff, reduceCtorEq, Nat.reduceEqDiff, Nat.reduceMod, capK, Try.tm_23, Try.tm_3, bij, bik, bjk, bji, bki, bkj]; exact hq) (by first | rfl | (simp only [go_sem, Nat.reduceLeDiff]; done) | (simp only [go_sem, Nat.reduceLeDiff]; rfl) | (simp; done) | (simp [oneD] <;> omega) | (simp_all; done) | (simp_all [oneD] <;> omega)) (by first | exact Nat.le_refl _ | exact Nat.le_of_ble_eq_true rfl | (dsimp only; omega) | (simp <;> omega)) ?_
 refine .seq ?_
 refine .seq ?_
 refine .plain Try.tmOk Try.tmMixed [0, 1, 2, 7] (by decide +kernel) (by intro q hq; simp only [go_sem, appendD, Nat.reduceSub, Int.reduceEq, Nat.reduceLT, Nat.reduceDiv, Nat.reduceAdd, Nat.reduceBEq, Nat.reduceLeDiff, reduceCtorEq, Nat.reduceEqDiff, Nat.reduceMod, capK, Try.tm_23, Try.tm_3]; exact hq) (by first | rfl | (simp only [go_sem, Nat.reduceLeDiff]; done) | (simp only [go_sem, Nat.reduceLeDiff]; rfl) | (simp; done) | (simp [oneD] <;> omega) | (simp_all; done) | (simp_all [oneD] <;> omega)) (by first | exact Nat.le_refl _ | exact Nat.le_of_ble_eq_true rfl | (dsimp only; omega) | (simp <;> omega)) ?_
 refine .cond rfl rfl (fun hc => by simp at hc) (fun hc => ?_)
 refine .skip ?_
 refine .seq ?_
 refine .plain Try.tmOk Try.tmMixed [0, 1, 2, 7] (by decide +kernel) (by intro q hq; simp only [go_sem, appendD, Nat.reduceSub, Int.reduceEq, Nat.reduceLT, Nat.reduceDiv, Nat.reduceAdd, Nat.reduceBEq, Nat.reduceLeDiff, reduceCtorEq, Nat.reduceEqDiff, Nat.reduceMod, capK, Try.tm_23, Try.tm_3]; exact hq) (by first | rfl | (simp only [go_sem, Nat.reduceLeDiff]; done) | (simp only [go_sem, Nat.reduceLeDiff]; rfl) | (simp; done) | (simp [oneD] <;> omega) | (simp_all; done) | (simp_all [oneD] <;> omega)) (by first | exact Nat.le_refl _ | exact Nat.le_of_ble_eq_true rfl | (dsimp only; omega) | (simp <;> omega)) ?_
 refine .seq ?_
 refine .seq ?_
 refine .plain Try.tmOk Try.tmMixed [0, 1, 2, 7, 8] (by decide +kernel) (by intro q hq; simp only [go_sem, appendD, Nat.reduceSub, Int.reduceEq, Nat.reduceLT, Nat.reduceDiv, Nat.reduceAdd, Nat.reduceBEq, Nat.reduceLeDiff, reduceCtorEq, Nat.reduceEqDiff, Nat.reduceMod, capK, Try.tm_23, Try.tm_3]; exact hq) (by first | rfl | (simp only [go_sem, Nat.reduceLeDiff]; done) | (simp only [go_sem, Nat.reduceLeDiff]; rfl) | (simp; done) | (simp [oneD] <;> omega) | (simp_all; done) | (simp_all [oneD] <;> omega)) (by first | exact Nat.le_refl _ | exact Nat.le_of_ble_eq_true rfl | (dsimp only; omega) | (simp <;> omega)) ?_
 refine .cond rfl rfl (fun hc => ?_) (fun hc => by simp at hc)
 refine .seq ?_
 refine .plain Try.tmOk Try.tmMixed [0, 2] (by decide +kernel) (by intro q hq; simp only [go_sem, appendD, Nat.reduceSub, Int.reduceEq, Nat.reduceLT, Nat.reduceDiv, Nat.reduceAdd, Nat.reduceBEq, Nat.reduceLeDiff, reduceCtorEq, Nat.reduceEqDiff, Nat.reduceMod, capK, Try.tm_23, Try.tm_3, bij, bik, bjk, bji, bki, bkj]; exact hq) (by first | rfl | (simp only [go_sem, Nat.reduceLeDiff]; done) | (simp only [go_sem, Nat.reduceLeDiff]; rfl) | (simp; done) | (simp [oneD] <;> omega) | (simp_all; done) | (simp_all [oneD] <;> omega)) (by first | exact Nat.le_refl _ | exact Nat.le_of_ble_eq_true rfl | (dsimp only; omega) | (simp <;> omega)) ?_
 refine .ret ⟨.inr rfl, retH [j, k] ?_ ?_⟩
 ·simp only [ResIs, resL, resD, resT, go_sem, appendD, Nat.reduceSub, Int.reduceEq, Nat.reduceLT, Nat.reduceDiv, Nat.reduceAdd, Nat.reduceBEq, Nat.reduceLeDiff, reduceCtorEq, Nat.reduceEqDiff, Nat.reduceMod, Try.f67]
 ·simp only [pickL, getL, effL, put, del, Nat.beq_refl, cond_true, cond_false, bij, bik, bjk, bji, bki, bkj, List.take_length]
theorem ins67g (i j k : Nat) (hij : i ≠ j) (hik : i ≠ k) (hjk : j ≠ k) (L : List D) (x : D) (P Q : Bool) (at' c : Nat) (hck : capK c = true) (hat : at' < L.length) (hL : L.length < 1000000) (h1 : L.length ≤ c) (h2 : c < L.length + 1) :
  CallH Try.prog 67 [.ref i 5 0 L.length (some c), .int .i64 (at' : Int), .ref j 5 0 1 (some 1)] [(i, .arr 67 5 P L), (j, .arr 67 5 Q [x])] (.ref k 5 0 (L.length + 1) none) [(k, some (.arr 67 5 (P && Q) (L.take at' ++ x :: L.drop at'))), (i, none)] (k, k + 1) := by
 obtain rfl : c = L.length := by omega
 have hck2 := hck
 have bij : Nat.beq i j = false := beq_ne hij
 have bik : Nat.beq i k = false := beq_ne hik
 have bjk : Nat.beq j k = false := beq_ne hjk
 have bji : Nat.beq j i = false := beq_ne (Ne.symm hij)
 have bki : Nat.beq k i = false := beq_ne (Ne.symm hik)
 have bkj : Nat.beq k j = false := beq_ne (Ne.symm hjk)
 have hw : wr .i64 ((L.length : Int) + ((1 : Nat) : Int)) = ((L.length + 1 : Nat) : Int) := wr_eq _ _ (by show (-9223372036854775808 : Int) ≤ _; omega) (by show _ ≤ (9223372036854775807 : Int); omega)
 have hw2 : wr .i64 (((L.length + 1 : Nat) : Int) - (at' : Int)) = ((L.length + 1 - at' : Nat) : Int) := by
  rw [wr_eq _ _ (by show (-9223372036854775808 : Int) ≤ _; omega) (by show _ ≤ (9223372036854775807 : Int); omega)]
  omega
 have hw3 : wr .i64 ((at' : Int) + ((1 : Nat) : Int)) = ((at' + 1 : Nat) : Int) := wr_eq _ _ (by show (-9223372036854775808 : Int) ≤ _; omega) (by show _ ≤ (9223372036854775807 : Int); omega)
 have ha : at' + (L.length + 1 - at') = L.length + 1 := by omega
 have pq : (P && Q && P) = (P && Q) := by cases P <;> cases Q <;> rfl
 have hm1 : Nat.min 1 (L.length + 1 - at') = 1 := by show min 1 (L.length + 1 - at') = 1; omega
 have hm2 : Nat.min (L.length - at') (L.length + 1 - (at' + 1)) = L.length - at' := by show min (L.length - at') (L.length + 1 - (at' + 1)) = L.length - at'; omega
 have tk : (L.take at').length = at' := by simp; omega
 have e1 : List.take at' (List.take at' L ++ List.replicate (L.length + 1 - at') (D.agg [D.int .i64 0, D.int .i64 0, D.int .i64 0, D.int .i64 0, D.str []])) = List.take at' L := by
  rw [List.take_append_of_le_length (by omega), List.take_of_length_le (by omega)]
 have e2 : List.drop (at' + 1) (List.take at' L ++ List.replicate (L.length + 1 - at') (D.agg [D.int .i64 0, D.int .i64 0, D.int .i64 0, D.int .i64 0, D.str []])) = List.replicate (L.length - at') (D.agg [D.int .i64 0, D.int .i64 0, D.int .i64 0, D.int .i64 0, D.str []]) := by
  rw [List.drop_append, List.drop_eq_nil_of_le (by omega), tk, List.nil_append, List.drop_replicate]
  congr 1; omega
 have e3 : List.take (at' + 1) (List.take at' L ++ [x] ++ List.replicate (L.length - at') (D.agg [D.int .i64 0, D.int .i64 0, D.int .i64 0, D.int .i64 0, D.str []])) = List.take at' L ++ [x] := by
  rw [List.take_append_of_le_length (by simp; omega), List.take_of_length_le (by simp; omega)]
 have e4 : List.drop (at' + 1 + (L.length - at')) (List.take at' L ++ [x] ++ List.replicate (L.length - at') (D.agg [D.int .i64 0, D.int .i64 0, D.int .i64 0, D.int .i64 0, D.str []])) = [] := List.drop_eq_nil_of_le (by simp; omega)
 have e5 : List.take (L.length - at') (List.drop at' L) = List.drop at' L := List.take_of_length_le (by simp)
 have l1 : (List.take at' L ++ List.replicate (L.length + 1 - at') (D.agg [D.int .i64 0, D.int .i64 0, D.int .i64 0, D.int .i64 0, D.str []])).length = L.length + 1 := by simp; omega
 have l2 : (List.take at' L ++ [x] ++ List.replicate (L.length - at') (D.agg [D.int .i64 0, D.int .i64 0, D.int .i64 0, D.int .i64 0, D.str []])).length = L.length + 1 := by simp; omega
 refine callH_intro' Try.tmOk Try.func67 rfl (by decide) (Nat.le_of_ble_eq_true rfl) (by simp) ?_
 intro hwf
 refine .seq ?_
 refine .plain Try.tmOk Try.tmMixed [0, 1, 2] (by decide +kernel) (by intro q hq; simp only [go_sem, appendD, Nat.reduceSub, Int.reduceEq, Nat.reduceLT, Nat.reduceDiv, Nat.reduceAdd, Nat.reduceBEq, Nat.reduceLeDiff, reduceCtorEq, Nat.reduceEqDiff, Nat.reduceMod, hck]; exact hq) (by first | rfl | (simp only [go_sem, Nat.reduceLeDiff]; done) | (simp only [go_sem, Nat.reduceLeDiff]; rfl) | (simp; done) | (simp [oneD] <;> omega) | (simp_all; done) | (simp_all [oneD] <;> omega)) (by first | exact Nat.le_refl _ | exact Nat.le_of_ble_eq_true rfl | (dsimp only; omega) | (simp <;> omega)) ?_
 refine .seq ?_
 refine .plain Try.tmOk Try.tmMixed [0, 1, 2] (by decide +kernel) (by intro q hq; simp only [go_sem, appendD, Nat.reduceSub, Int.reduceEq, Nat.reduceLT, Nat.reduceDiv, Nat.reduceAdd, Nat.reduceBEq, Nat.reduceLeDiff, reduceCtorEq, Nat.reduceEqDiff, Nat.reduceMod, Try.tm_23, Try.tm_3, hck]; exact hq) (by first | rfl | (simp only [go_sem, Nat.reduceLeDiff]; done) | (simp only [go_sem, Nat.reduceLeDiff]; rfl) | (simp; done) | (simp [oneD] <;> omega) | (simp_all; done) | (simp_all [oneD] <;> omega)) (by first | exact Nat.le_refl _ | exact Nat.le_of_ble_eq_true rfl | (dsimp only; omega) | (simp <;> omega)) ?_
 refine .seq ?_
 refine .plain Try.tmOk Try.tmMixed [0, 1, 2] (by decide +kernel) (by intro q hq; simp only [go_sem, appendD, Nat.reduceSub, Int.reduceEq, Nat.reduceLT, Nat.reduceDiv, Nat.reduceAdd, Nat.reduceBEq, Nat.reduceLeDiff, reduceCtorEq, Nat.reduceEqDiff, Nat.reduceMod, Try.tm_23, Try.tm_3, hck]; exact hq) (by first | rfl | (simp only [go_sem, Nat.reduceLeDiff]; done) | (simp only [go_sem, Nat.reduceLeDiff]; rfl) | (simp; done) | (simp [oneD] <;> omega) | (simp_all; done) | (simp_all [oneD] <;> omega)) (by first | exact Nat.le_refl _ | exact Nat.le_of_ble_eq_true rfl | (dsimp only; omega) | (simp <;> omega)) ?_
 refine .seq ?_
 refine .seq ?_
 refine .plain Try.tmOk Try.tmMixed [0, 1, 2, 7] (by decide +kernel) (by intro q hq; simp only [go_sem, appendD, Nat.reduceSub, Int.reduceEq, Nat.reduceLT, Nat.reduceDiv, Nat.reduceAdd, Nat.reduceBEq, Nat.reduceLeDiff, reduceCtorEq, Nat.reduceEqDiff, Nat.reduceMod, Try.tm_23, Try.tm_3, hck]; exact hq) (by first | rfl | (simp only [go_sem, Nat.reduceLeDiff]; done) | (simp only [go_sem, Nat.reduceLeDiff]; rfl) | (simp; done) | (simp [oneD] <;> omega) | (simp_all; done) | (simp_all [oneD] <;> omega)) (by first | exact Nat.le_refl _ | exact Nat.le_of_ble_eq_true rfl | (dsimp only; omega) | (simp <;> omega)) ?_
 refine .cond rfl rfl (fun hc => by simp at hc) (fun hc => ?_)
 refine .skip ?_
 refine .seq ?_
 refine .plain Try.tmOk Try.tmMixed [0, 1, 2, 7] (by decide +kernel) (by intro q hq; simp only [go_sem, appendD, Nat.reduceSub, Int.reduceEq, Nat.reduceLT, Nat.reduceDiv, Nat.reduceAdd, Nat.reduceBEq, Nat.reduceLeDiff, reduceCtorEq, Nat.reduceEqDiff, Nat.reduceMod, Try.tm_23, Try.tm_3, hck]; exact hq) (by first | rfl | (simp only [go_sem, Nat.reduceLeDiff]; done) | (simp only [go_sem, Nat.reduceLeDiff]; rfl) | (simp; done) | (simp [oneD] <;> omega) | (simp_all; done) | (simp_all [oneD] <;> omega)) (by first | exact Nat.le_refl _ | exact Nat.le_of_ble_eq_true rfl | (dsimp only; omega) | (simp <;> omega)) ?_
 refine .seq ?_
 refine .seq ?_
 refine .plain Try.tmOk Try.tmMixed [0, 1, 2, 7, 8] (by decide +kernel) (by intro q hq; simp only [go_sem, appendD, Nat.reduceSub, Int.reduceEq, Nat.reduceLT, Nat.reduceDiv, Nat.reduceAdd, Nat.reduceBEq, Nat.reduceLeDiff, reduceCtorEq, Nat.reduceEqDiff, Nat.reduceMod, Try.tm_23, Try.tm_3, hck]; exact hq) (by first | rfl | (simp only [go_sem, Nat.reduceLeDiff]; done) | (simp only [go_sem, Nat.reduceLeDiff]; rfl) | (simp; done) | (simp [oneD] <;> omega) | (simp_all; done) | (simp_all [oneD] <;> omega)) (by first | exact Nat.le_refl _ | exact Nat.le_of_ble_eq_true rfl | (dsimp only; omega) | (simp <;> omega)) ?_
 refine .cond rfl rfl (fun hc => by simp at hc; omega) (fun hc => ?_)
 refine .skip ?_
 refine .seq ?_
 refine .seq ?_
 refine .plain Try.tmOk Try.tmMixed [0, 1, 2, 7, 8] (by decide +kernel) (by intro q hq; simp only [go_sem, appendD, Nat.reduceSub, Int.reduceEq, Nat.reduceLT, Nat.reduceDiv, Nat.reduceAdd, Nat.reduceBEq, Nat.reduceLeDiff, reduceCtorEq, Nat.reduceEqDiff, Nat.reduceMod, Try.tm_23, Try.tm_3, hck, hw]; exact hq) (by first | rfl | (simp only [go_sem, Nat.reduceLeDiff]; done) | (simp only [go_sem, Nat.reduceLeDiff]; rfl) | (simp; done) | (simp [oneD] <;> omega) | (simp_all; done) | (simp_all [oneD] <;> omega)) (by first | exact Nat.le_refl _ | exact Nat.le_of_ble_eq_true rfl | (dsimp only; omega) | (simp <;> omega)) ?_
 refine .cond rfl rfl (fun hc => ?_) (fun hc => by simp at hc; omega)
 refine .seq ?_
 refine .plain Try.tmOk Try.tmMixed [0, 1, 2, 7, 8] (by decide +kernel) (by intro q hq; simp only [go_sem, appendD, Nat.reduceSub, Int.reduceEq, Nat.reduceLT, Nat.reduceDiv, Nat.reduceAdd, Nat.reduceBEq, Nat.reduceLeDiff, reduceCtorEq, Nat.reduceEqDiff, Nat.reduceMod, Try.tm_23, Try.tm_3, hck, hw, hw2, ha, appendZ, Int.sub_zero, Int.toNat_zero, Int.toNat_sub, bij, bik, bjk, bji, bki, bkj]; exact hq) (by first | rfl | (simp only [go_sem, Nat.reduceLeDiff]; done) | (simp only [go_sem, Nat.reduceLeDiff]; rfl) | (simp; done) | (simp [oneD] <;> omega) | (simp_all; done) | (simp_all [oneD] <;> omega)) (by first | exact Nat.le_refl _ | exact Nat.le_of_ble_eq_true rfl | (dsimp only; omega) | (simp <;> omega)) ?_
 refine .seq ?_
 refine .plain Try.tmOk Try.tmMixed [0, 1, 2, 7, 8, 9] (by decide +kernel) (by intro q hq; simp only [go_sem, appendD, Nat.reduceSub, Int.reduceEq, Nat.reduceLT, Nat.reduceDiv, Nat.reduceAdd, Nat.reduceBEq, Nat.reduceLeDiff, reduceCtorEq, Nat.reduceEqDiff, Nat.reduceMod, Try.tm_23, Try.tm_3, hck, hw, hw2, ha, appendZ, Int.sub_zero, Int.toNat_zero, Int.toNat_sub, bij, bik, bjk, bji, bki, bkj, Int.toNat_sub, hm1, e1, e2, List.take_one, List.take_succ_cons]; exact hq) (by first | rfl | (simp only [go_sem, Nat.reduceLeDiff]; done) | (simp only [go_sem, Nat.reduceLeDiff]; rfl) | (simp; done) | (simp [oneD] <;> omega) | (simp_all; done) | (simp_all [oneD] <;> omega)) (by first | exact Nat.le_refl _ | exact Nat.le_of_ble_eq_true rfl | (dsimp only; omega) | (simp <;> omega)) ?_
 refine .seq ?_
 refine .drawn Try.tmOk Try.tmMixed [0, 1, 2, 7, 8, 9] (by decide +kernel) (by intro q hq; simp only [go_sem, appendD, Nat.reduceSub, Int.reduceEq, Nat.reduceLT, Nat.reduceDiv, Nat.reduceAdd, Nat.reduceBEq, Nat.reduceLeDiff, reduceCtorEq, Nat.reduceEqDiff, Nat.reduceMod, Try.tm_23, Try.tm_3, hck, hw, hw2, hw3, ha, appendZ, capS, bij, bik, bjk, bji, bki, bkj, Int.toNat_sub, hm1, hm2, e3, e4, e5]; exact hq) (schedB_of (by kernel_rfl)) (by first | rfl | (simp only [go_sem, Nat.reduceLeDiff]; done) | (simp only [go_sem, Nat.reduceLeDiff]; rfl) | (simp; done) | (simp [oneD] <;> omega) | (simp_all; done) | (simp_all [oneD] <;> omega)) (by first | exact Nat.le_refl _ | exact Nat.le_of_ble_eq_true rfl | (dsimp only; omega) | (simp <;> omega)) ?_
 refine .seq ?_
 refine .plain Try.tmOk Try.tmMixed [9] (by decide +kernel) (by intro q hq; simp only [go_sem, appendD, Nat.reduceSub, Int.reduceEq, Nat.reduceLT, Nat.reduceDiv, Nat.reduceAdd, Nat.reduceBEq, Nat.reduceLeDiff, reduceCtorEq, Nat.reduceEqDiff, Nat.reduceMod, Try.tm_23, Try.tm_3, hck]; exact hq) (by first | rfl | (simp only [go_sem, Nat.reduceLeDiff]; done) | (simp only [go_sem, Nat.reduceLeDiff]; rfl) | (simp; done) | (simp [oneD] <;> omega) | (simp_all; done) | (simp_all [oneD] <;> omega)) (by first | exact Nat.le_refl _ | exact Nat.le_of_ble_eq_true rfl | (dsimp only; omega) | (simp <;> omega)) ?_
 refine .ret ⟨.inr rfl, retH [j, k] ?_ ?_⟩
 ·simp only [ResIs, resL, resD, resT, go_sem, appendD, Nat.reduceSub, Int.reduceEq, Nat.reduceLT, Nat.reduceDiv, Nat.reduceAdd, Nat.reduceBEq, Nat.reduceLeDiff, reduceCtorEq, Nat.reduceEqDiff, Nat.reduceMod, Try.f67]
 ·simp only [pickL, getL, effL, put, del, Nat.beq_refl, cond_true, cond_false, bij, bik, bjk, bji, bki, bkj, pq, List.append_assoc, List.singleton_append, List.append_nil]
theorem ins67r (i j k : Nat) (hij : i ≠ j) (L : List D) (x : D) (P Q : Bool) (at' c : Nat) (hck : capK c = true) (hat : at' < L.length) (hL : L.length < 1000000) (h1 : L.length + 1 ≤ c) :
  CallH Try.prog 67 [.ref i 5 0 L.length (some c), .int .i64 (at' : Int), .ref j 5 0 1 (some 1)] [(i, .arr 67 5 P L), (j, .arr 67 5 Q [x])] (.ref i 5 0 (L.length + 1) (some c)) [(i, some (.arr 67 5 (P && Q) (L.take at' ++ x :: L.drop at')))] (k, k) := by
 have bij : Nat.beq i j = false := beq_ne hij
 have bji : Nat.beq j i = false := beq_ne (Ne.symm hij)
 have hw : wr .i64 ((L.length : Int) + ((1 : Nat) : Int)) = ((L.length + 1 : Nat) : Int) := wr_eq _ _ (by show (-9223372036854775808 : Int) ≤ _; omega) (by show _ ≤ (9223372036854775807 : Int); omega)
 have hw3 : wr .i64 ((at' : Int) + ((1 : Nat) : Int)) = ((at' + 1 : Nat) : Int) := wr_eq _ _ (by show (-9223372036854775808 : Int) ≤ _; omega) (by show _ ≤ (9223372036854775807 : Int); omega)
 have hm1 : Nat.min 1 (L.length + 1 - at') = 1 := by show min 1 (L.length + 1 - at') = 1; omega
 have hm2 : Nat.min (L.length + 1 - at') (L.length + 1 - (at' + 1)) = L.length - at' := by show min (L.length + 1 - at') (L.length + 1 - (at' + 1)) = L.length - at'; omega
 have hn1 : L.length + 1 - (at' + 1) = (L.length - at' - 1) + 1 := by omega
 have tk : (L.take at').length = at' := by simp; omega
 have tk1 : (L.take (at' + 1)).length = at' + 1 := by simp; omega
 have e5 : List.take (L.length - at') (List.drop at' L) = List.drop at' L := List.take_of_length_le (by simp)
 have e4 : List.drop (at' + 1 + (L.length - at')) L = [] := List.drop_eq_nil_of_le (by omega)
 have e1 : List.take at' (List.take (at' + 1) L ++ List.drop at' L) = List.take at' L := by
  rw [List.take_append_of_le_length (by omega), List.take_take]
  congr 1; omega
 have e2 : List.drop (at' + 1) (List.take (at' + 1) L ++ List.drop at' L) = List.drop at' L := by
  rw [List.drop_append, List.drop_eq_nil_of_le (by omega), tk1, Nat.sub_self, List.drop_zero, List.nil_append]
 refine callH_intro' Try.tmOk Try.func67 rfl (by decide) (Nat.le_of_ble_eq_true rfl) (by simp) ?_
 intro hwf
 refine .seq ?_
 refine .plain Try.tmOk Try.tmMixed [0, 1, 2] (by decide +kernel) (by intro q hq; simp only [go_sem, appendD, Nat.reduceSub, Int.reduceEq, Nat.reduceLT, Nat.reduceDiv, Nat.reduceAdd, Nat.reduceBEq, Nat.reduceLeDiff, reduceCtorEq, Nat.reduceEqDiff, Nat.reduceMod, hck]; exact hq) (by first | rfl | (simp only [go_sem, Nat.reduceLeDiff]; done) | (simp only [go_sem, Nat.reduceLeDiff]; rfl) | (simp; done) | (simp [oneD] <;> omega) | (simp_all; done) | (simp_all [oneD] <;> omega)) (by first | exact Nat.le_refl _ | exact Nat.le_of_ble_eq_true rfl | (dsimp only; omega) | (simp <;> omega)) ?_
 refine .seq ?_
 refine .plain Try.tmOk Try.tmMixed [0, 1, 2] (by decide +kernel) (by intro q hq; simp only [go_sem, appendD, Nat.reduceSub, Int.reduceEq, Nat.reduceLT, Nat.reduceDiv, Nat.reduceAdd, Nat.reduceBEq, Nat.reduceLeDiff, reduceCtorEq, Nat.reduceEqDiff, Nat.reduceMod, Try.tm_23, Try.tm_3, hck]; exact hq) (by first | rfl | (simp only [go_sem, Nat.reduceLeDiff]; done) | (simp only [go_sem, Nat.reduceLeDiff]; rfl) | (simp; done) | (simp [oneD] <;> omega) | (simp_all; done) | (simp_all [oneD] <;> omega)) (by first | exact Nat.le_refl _ | exact Nat.le_of_ble_eq_true rfl | (dsimp only; omega) | (simp <;> omega)) ?_
 refine .seq ?_
 refine .plain Try.tmOk Try.tmMixed [0, 1, 2] (by decide +kernel) (by intro q hq; simp only [go_sem, appendD, Nat.reduceSub, Int.reduceEq, Nat.reduceLT, Nat.reduceDiv, Nat.reduceAdd, Nat.reduceBEq, Nat.reduceLeDiff, reduceCtorEq, Nat.reduceEqDiff, Nat.reduceMod, Try.tm_23, Try.tm_3, hck]; exact hq) (by first | rfl | (simp only [go_sem, Nat.reduceLeDiff]; done) | (simp only [go_sem, Nat.reduceLeDiff]; rfl) | (simp; done) | (simp [oneD] <;> omega) | (simp_all; done) | (simp_all [oneD] <;> omega)) (by first | exact Nat.le_refl _ | exact Nat.le_of_ble_eq_true rfl | (dsimp only; omega) | (simp <;> omega)) ?_
 refine .seq ?_
 refine .seq ?_
 refine .plain Try.tmOk Try.tmMixed [0, 1, 2, 7] (by decide +kernel) (by intro q hq; simp only [go_sem, appendD, Nat.reduceSub, Int.reduceEq, Nat.reduceLT, Nat.reduceDiv, Nat.reduceAdd, Nat.reduceBEq, Nat.reduceLeDiff, reduceCtorEq, Nat.reduceEqDiff, Nat.reduceMod, Try.tm_23, Try.tm_3, hck]; exact hq) (by first | rfl | (simp only [go_sem, Nat.reduceLeDiff]; done) | (simp only [go_sem, Nat.reduceLeDiff]; rfl) | (simp; done) | (simp [oneD] <;> omega) | (simp_all; done) | (simp_all [oneD] <;> omega)) (by first | exact Nat.le_refl _ | exact Nat.le_of_ble_eq_true rfl | (dsimp only; omega) | (simp <;> omega)) ?_
 refine .cond rfl rfl (fun hc => by simp at hc) (fun hc => ?_)
 refine .skip ?_
 refine .seq ?_
 refine .plain Try.tmOk Try.tmMixed [0, 1, 2, 7] (by decide +kernel) (by intro q hq; simp only [go_sem, appendD, Nat.reduceSub, Int.reduceEq, Nat.reduceLT, Nat.reduceDiv, Nat.reduceAdd, Nat.reduceBEq, Nat.reduceLeDiff, reduceCtorEq, Nat.reduceEqDiff, Nat.reduceMod, Try.tm_23, Try.tm_3, hck]; exact hq) (by first | rfl | (simp only [go_sem, Nat.reduceLeDiff]; done) | (simp only [go_sem, Nat.reduceLeDiff]; rfl) | (simp; done) | (simp [oneD] <;> omega) | (simp_all; done) | (simp_all [oneD] <;> omega)) (by first | exact Nat.le_refl _ | exact Nat.le_of_ble_eq_true rfl | (dsimp only; omega) | (simp <;> omega)) ?_
 refine .seq ?_
 refine .seq ?_
 refine .plain Try.tmOk Try.tmMixed [0, 1, 2, 7, 8] (by decide +kernel) (by intro q hq; simp only [go_sem, appendD, Nat.reduceSub, Int.reduceEq, Nat.reduceLT, Nat.reduceDiv, Nat.reduceAdd, Nat.reduceBEq, Nat.reduceLeDiff, reduceCtorEq, Nat.reduceEqDiff, Nat.reduceMod, Try.tm_23, Try.tm_3, hck]; exact hq) (by first | rfl | (simp only [go_sem, Nat.reduceLeDiff]; done) | (simp only [go_sem, Nat.reduceLeDiff]; rfl) | (simp; done) | (simp [oneD] <;> omega) | (simp_all; done) | (simp_all [oneD] <;> omega)) (by first | exact Nat.le_refl _ | exact Nat.le_of_ble_eq_true rfl | (dsimp only; omega) | (simp <;> omega)) ?_
 refine .cond rfl rfl (fun hc => by simp at hc; omega) (fun hc => ?_)
 refine .skip ?_
 refine .seq ?_
 refine .seq ?_
 refine .plain Try.tmOk Try.tmMixed [0, 1, 2, 7, 8] (by decide +kernel) (by intro q hq; simp only [go_sem, appendD, Nat.reduceSub, Int.reduceEq, Nat.reduceLT, Nat.reduceDiv, Nat.reduceAdd, Nat.reduceBEq, Nat.reduceLeDiff, reduceCtorEq, Nat.reduceEqDiff, Nat.reduceMod, Try.tm_23, Try.tm_3, hck, hw]; exact hq) (by first | rfl | (simp only [go_sem, Nat.reduceLeDiff]; done) | (simp only [go_sem, Nat.reduceLeDiff]; rfl) | (simp; done) | (simp [oneD] <;> omega) | (simp_all; done) | (simp_all [oneD] <;> omega)) (by first | exact Nat.le_refl _ | exact Nat.le_of_ble_eq_true rfl | (dsimp only; omega) | (simp <;> omega)) ?_
 refine .cond rfl rfl (fun hc => by simp at hc; omega) (fun hc => ?_)
 refine .skip ?_
 refine .seq ?_
 refine .plain Try.tmOk Try.tmMixed [0, 1, 2, 7, 8] (by decide +kernel) (by intro q hq; simp only [go_sem, appendD, Nat.reduceSub, Int.reduceEq, Nat.reduceLT, Nat.reduceDiv, Nat.reduceAdd, Nat.reduceBEq, Nat.reduceLeDiff, reduceCtorEq, Nat.reduceEqDiff, Nat.reduceMod, Try.tm_23, Try.tm_3, hck, hw, roomV, Option.isSome, Int.sub_zero, Int.toNat_zero, Nat.sub_zero, bij, bji]; exact hq) (by first | rfl | (simp only [go_sem, Nat.reduceLeDiff]; done) | (simp only [go_sem, Nat.reduceLeDiff]; rfl) | (simp; done) | (simp [oneD] <;> omega) | (simp_all; done) | (simp_all [oneD] <;> omega)) (by first | exact Nat.le_refl _ | exact Nat.le_of_ble_eq_true rfl | (dsimp only; omega) | (simp <;> omega)) ?_
 refine .seq ?_
 refine .seq ?_
 refine .reg Try.tmOk Try.tmMixed [0, 1, 2, 7] (by decide +kernel) ?_
 refine .R (dr := false) (.inr fun _ _ _ h => ⟨nofun, h.2⟩) (by intro q hq; simp only [go_sem, appendD, Nat.reduceSub, Int.reduceEq, Nat.reduceLT, Nat.reduceDiv, Nat.reduceAdd, Nat.reduceBEq, Nat.reduceLeDiff, reduceCtorEq, Nat.reduceEqDiff, Nat.reduceMod, Try.tm_23, Try.tm_3, hck, hw3, Int.toNat_sub, bij, bji]; exact hq) (by first | rfl | (simp only [go_sem, Nat.reduceLeDiff]; done) | (simp only [go_sem, Nat.reduceLeDiff]; rfl) | (simp; done) | (simp [oneD] <;> omega) | (simp_all; done) | (simp_all [oneD] <;> omega)) (by first | exact Nat.le_refl _ | exact Nat.le_of_ble_eq_true rfl | (dsimp only; omega) | (simp <;> omega)) ?_
 refine .overs (i := j) (j := i) rfl rfl rfl rfl rfl overs84 ⟨5, 0, 0, some 1, 5 - 1, at' + 1, L.length - at' - 1, some (c - (at' + 1)), 67, 5, Q, [x], 67, 5, P, L, by
  show [D.ref j 5 0 1 (some 1), D.ref i 5 (at' + 1) (L.length + 1 - (at' + 1)) (some (c - (at' + 1)))] = _
  rw [hn1], by simp only [getL, bij, cond_false, Nat.beq_refl, cond_true], by simp only [getL, Nat.beq_refl, cond_true], Ne.symm hij⟩ ?_
 refine .R (dr := false) (.inr fun _ _ _ h => ⟨nofun, h.2⟩) (by intro q hq; simp only [go_sem, appendD, Nat.reduceSub, Int.reduceEq, Nat.reduceLT, Nat.reduceDiv, Nat.reduceAdd, Nat.reduceBEq, Nat.reduceLeDiff, reduceCtorEq, Nat.reduceEqDiff, Nat.reduceMod, Try.tm_23, Try.tm_3, hck]; exact hq) (by first | rfl | (simp only [go_sem, Nat.reduceLeDiff]; done) | (simp only [go_sem, Nat.reduceLeDiff]; rfl) | (simp; done) | (simp [oneD] <;> omega) | (simp_all; done) | (simp_all [oneD] <;> omega)) (by first | exact Nat.le_refl _ | exact Nat.le_of_ble_eq_true rfl | (dsimp only; omega) | (simp <;> omega)) ?_
 refine .nil ⟨nofun, ?_⟩
 refine .cond rfl rfl (fun hc => ?_) (fun hc => by cases hc)
 refine .seq ?_
 refine .drawn Try.tmOk Try.tmMixed [0, 1, 2, 7] (by decide +kernel) (by intro q hq; simp only [go_sem, appendD, Nat.reduceSub, Int.reduceEq, Nat.reduceLT, Nat.reduceDiv, Nat.reduceAdd, Nat.reduceBEq, Nat.reduceLeDiff, reduceCtorEq, Nat.reduceEqDiff, Nat.reduceMod, Try.tm_23, Try.tm_3, hck, hw3, Int.toNat_sub, hm2, e4, e5, bij, bji, Bool.and_self, List.append_nil]; exact hq) (schedB_of (by kernel_rfl)) (by first | rfl | (simp only [go_sem, Nat.reduceLeDiff]; done) | (simp only [go_sem, Nat.reduceLeDiff]; rfl) | (simp; done) | (simp [oneD] <;> omega) | (simp_all; done) | (simp_all [oneD] <;> omega)) (by first | exact Nat.le_refl _ | exact Nat.le_of_ble_eq_true rfl | (dsimp only; omega) | (simp <;> omega)) ?_
 refine .seq ?_
 refine .plain Try.tmOk Try.tmMixed [0, 1, 2] (by decide +kernel) (by intro q hq; simp only [go_sem, appendD, Nat.reduceSub, Int.reduceEq, Nat.reduceLT, Nat.reduceDiv, Nat.reduceAdd, Nat.reduceBEq, Nat.reduceLeDiff, reduceCtorEq, Nat.reduceEqDiff, Nat.reduceMod, Try.tm_23, Try.tm_3, hck, Int.toNat_sub, hm1, e1, e2, bij, bji, List.take_succ_cons]; exact hq) (by first | rfl | (simp only [go_sem, Nat.reduceLeDiff]; done) | (simp only [go_sem, Nat.reduceLeDiff]; rfl) | (simp; done) | (simp [oneD] <;> omega) | (simp_all; done) | (simp_all [oneD] <;> omega)) (by first | exact Nat.le_refl _ | exact Nat.le_of_ble_eq_true rfl | (dsimp only; omega) | (simp <;> omega)) ?_
 refine .seq ?_
 refine .plain Try.tmOk Try.tmMixed [0] (by decide +kernel) (by intro q hq; simp only [go_sem, appendD, Nat.reduceSub, Int.reduceEq, Nat.reduceLT, Nat.reduceDiv, Nat.reduceAdd, Nat.reduceBEq, Nat.reduceLeDiff, reduceCtorEq, Nat.reduceEqDiff, Nat.reduceMod, Try.tm_23, Try.tm_3, hck]; exact hq) (by first | rfl | (simp only [go_sem, Nat.reduceLeDiff]; done) | (simp only [go_sem, Nat.reduceLeDiff]; rfl) | (simp; done) | (simp [oneD] <;> omega) | (simp_all; done) | (simp_all [oneD] <;> omega)) (by first | exact Nat.le_refl _ | exact Nat.le_of_ble_eq_true rfl | (dsimp only; omega) | (simp <;> omega)) ?_
 refine .ret ⟨.inr rfl, retH [i, j] ?_ ?_⟩
 ·simp only [ResIs, resL, resD, resT, go_sem, appendD, Nat.reduceSub, Int.reduceEq, Nat.reduceLT, Nat.reduceDiv, Nat.reduceAdd, Nat.reduceBEq, Nat.reduceLeDiff, reduceCtorEq, Nat.reduceEqDiff, Nat.reduceMod, Try.f67]
 ·simp only [pickL, getL, effL, put, del, Nat.beq_refl, cond_true, cond_false, bij, bji, List.append_assoc, List.singleton_append, List.append_nil]
theorem ins67 (i j k : Nat) (hij : i ≠ j) (hik : i ≠ k) (hjk : j ≠ k) (L : List D) (x : D) (P Q : Bool) (at' : Nat) (hat : at' ≤ L.length) (hL : L.length < 1000000) :
  CallH Try.prog 67 [.ref i 5 0 L.length (some unkC), .int .i64 (at' : Int), .ref j 5 0 1 (some 1)] [(i, .arr 67 5 P L), (j, .arr 67 5 Q [x])] (.ref k 5 0 (L.length + 1) (some unkC)) [(k, some (.arr 67 5 (P && Q) (L.take at' ++ x :: L.drop at'))), (i, none)] (k, k + 1) := by
 by_cases h : at' = L.length
 ·subst h
  have := ins67e i j k hij hik hjk L x P Q hL
  rw [List.take_length, List.drop_length]
  exact this
 ·exact callH_capW (l := L) (p := P) (ins67e i j k hij hik hjk L x P Q hL).1 (by simp only [getL, Nat.beq_refl, cond_true]) hik (by omega)
   (fun c hc _ h2 => ins67r i j k hij L x P Q at' c hc (by omega) hL h2)
   (fun c hc h1 h2 => ins67g i j k hij hik hjk L x P Q at' c hc (by omega) hL h1 h2)
end Go.Proofs
end
section
namespace Go.Proofs
open Go.Tm
theorem insT67 (i j k : Nat) (hij : i ≠ j) (hik : i ≠ k) (hjk : j ≠ k) (l : List TSeen) (x : TSeen) (at' : Int) (h : 0 ≤ at' ∧ at' ≤ (l.length : Int)) (hl : l.length < 1000000) :
  CallH Try.prog 67 [.ref i 5 0 l.length (some unkC), .int .i64 at', .ref j 5 0 1 (some 1)] [(i, .arr 67 5 true (l.map TSeen.d)), (j, .arr 67 5 true [x.d])] (.ref k 5 0 (l.take at'.toNat ++ x :: l.drop at'.toNat).length (some unkC)) [(k, some (.arr 67 5 true ((l.take at'.toNat ++ x :: l.drop at'.toNat).map TSeen.d))), (i, none)] (k, k + 1) := by
 have t := ins67 i j k hij hik hjk (l.map TSeen.d) x.d true true at'.toNat (by rw [List.length_map]; omega) (by rw [List.length_map]; exact hl)
 rw [Int.toNat_of_nonneg h.1, List.length_map, take_map, drop_map, ← List.map_cons, ← List.map_append] at t
 have e : l.length + 1 = (l.take at'.toNat ++ x :: l.drop at'.toNat).length := by simp; omega
 rw [e] at t
 exact t
end Go.Proofs
end
section
namespace Go.Proofs
open Go.Tm Go.RowKit Go.WideShapes
set_option maxRecDepth 100000
set_option linter.unusedSimpArgs false
set_option linter.unusedVariables false
attribute [local go_sem] argVars runE runK isCallV stepE aop opd opdsL opds opdO ev ofVal keep List.any natbeq Bool.false_or Bool.true_or aggEq cond_true cond_false Bool.cond_false_right Bool.cond_true_left beq_true beq_false imp_self implies_true getR getL put St.app effL del nwB blt_dec Nat.lt_irrefl Nat.lt_add_one ble_dec Nat.le_refl Nat.beq_refl roomNZ capS mkZ_zero mkZL_zero zeroEl D.ids D.idsL bin arith sarith binT dpick Tm.part splice fillD oneD loadD storeD srcD sliceD idxOk decide_true gval dstAt D.cells List.map_cons List.map_nil List.take List.drop List.length_map List.append Int.toNat_natCast and_true true_and decide_false List.length_cons List.length_nil List.append_nil List.nil_append Bool.and_true Bool.true_and Bool.not_false Bool.not_true ne_eq not_false_eq_true BEq.rfl List.getElem?_cons_zero List.getElem?_cons_succ List.getElem?_nil Nat.zero_add List.all_cons List.all_nil List.isEmpty_cons List.isEmpty_nil Option.getD_some Option.getD_none List.any_cons List.any_nil List.drop_succ_cons List.drop_zero unfL unf okM okML low3 List.cons_append true_or or_true Nat.zero_mul Nat.zero_le fpOf opIds
theorem del66r (i k : Nat) (L : List D) (P : Bool) (at' c : Nat) (hck : capK c = true) (hat : at' < L.length) (hL : L.length < 1000000) (h1 : L.length ≤ c) :
  CallH Try.prog 66 [.ref i 5 0 L.length (some c), .int .i64 (at' : Int), .int .i64 ((at' + 1 : Nat) : Int)] [(i, .arr 67 5 P L)] (.ref i 5 0 (L.length - 1) (some c)) [(i, some (.arr 67 5 P (L.take at' ++ L.drop (at' + 1))))] (k, k) := by
 have e5 : List.take (L.length - (at' + 1)) (List.drop (at' + 1) L) = List.drop (at' + 1) L := List.take_of_length_le (by simp)
 have hl : at' + (L.drop (at' + 1)).length = L.length - 1 := by simp; omega
 have hm : Nat.blt at' L.length = true := Nat.ble_eq_true_of_le hat
 have hcL : L.length - 1 ≤ c := by omega
 have hm2 : at' < L.length := hat
 have hne : ¬ ((at' : Int) = ((at' + 1 : Nat) : Int)) := by omega
 have ha : Nat.beq at' (at' + 1) = false := beq_ne (by omega)
 have l1 : (L.take at' ++ L.drop (at' + 1)).length = L.length - 1 := by simp; omega
 have l2 : (L.take at' ++ L.drop (at' + 1) ++ L.drop (L.length - 1)).length = L.length := by simp; omega
 have t1 : List.take (L.length - 1) (L.take at' ++ L.drop (at' + 1) ++ L.drop (L.length - 1)) = L.take at' ++ L.drop (at' + 1) := by
  rw [List.take_append_of_le_length (by omega), List.take_of_length_le (by omega)]
 have t2 : ∀ R S : List D, List.take (L.length - 1) (L.take at' ++ L.drop (at' + 1) ++ R ++ S) = L.take at' ++ L.drop (at' + 1) := fun R S => by
  rw [List.append_assoc _ R S, List.take_append_of_le_length (by omega), List.take_of_length_le (by omega)]
 have q1 : Int.toNat ((L.length : Int) - ((L.length - 1 : Nat) : Int)) = 1 := by omega
 have q2 : Int.toNat ((L.length - 1 : Nat) : Int) = L.length - 1 := by omega
 have q3 : Int.toNat (((L.length : Int)) - ((at' + 1 : Nat) : Int)) = L.length - (at' + 1) := by omega
 refine callH_intro' Try.tmOk Try.func66 rfl (by decide) (Nat.le_of_ble_eq_true rfl) (by simp) ?_
 intro hwf
 refine .seq ?_
 refine .plain Try.tmOk Try.tmMixed [0, 1, 2] (by decide +kernel) (by intro q hq; simp only [go_sem, appendD, Nat.reduceSub, Int.reduceEq, Nat.reduceLT, Nat.reduceDiv, Nat.reduceAdd, Nat.reduceBEq, Nat.reduceLeDiff, reduceCtorEq, Nat.reduceEqDiff, Nat.reduceMod, hck]; exact hq) (by first | rfl | (simp only [go_sem, Nat.reduceLeDiff]; done) | (simp only [go_sem, Nat.reduceLeDiff]; rfl) | (simp; done) | (simp [oneD] <;> omega) | (simp_all; done) | (simp_all [oneD] <;> omega)) (by first | exact Nat.le_refl _ | exact Nat.le_of_ble_eq_true rfl | (dsimp only; omega) | (simp <;> omega)) ?_
 refine .seq ?_
 refine .plain Try.tmOk Try.tmMixed [0, 1, 2] (by decide +kernel) (by intro q hq; simp only [go_sem, appendD, Nat.reduceSub, Int.reduceEq, Nat.reduceLT, Nat.reduceDiv, Nat.reduceAdd, Nat.reduceBEq, Nat.reduceLeDiff, reduceCtorEq, Nat.reduceEqDiff, Nat.reduceMod, Try.tm_23, Try.tm_3, hck, slice3D, opdO]; exact hq) (by first | rfl | (simp only [go_sem, Nat.reduceLeDiff]; done) | (simp only [go_sem, Nat.reduceLeDiff]; rfl) | (simp; done) | (simp [oneD] <;> omega) | (simp_all; done) | (simp_all [oneD] <;> omega)) (by first | exact Nat.le_refl _ | exact Nat.le_of_ble_eq_true rfl | (dsimp only; omega) | (simp <;> omega)) ?_
 refine .seq ?_
 refine .seq ?_
 refine .plain Try.tmOk Try.tmMixed [0, 1, 2] (by decide +kernel) (by intro q hq; simp only [go_sem, appendD, Nat.reduceSub, Int.reduceEq, Nat.reduceLT, Nat.reduceDiv, Nat.reduceAdd, Nat.reduceBEq, Nat.reduceLeDiff, reduceCtorEq, Nat.reduceEqDiff, Nat.reduceMod, Try.tm_23, Try.tm_3, hck]; exact hq) (by first | rfl | (simp only [go_sem, Nat.reduceLeDiff]; done) | (simp only [go_sem, Nat.reduceLeDiff]; rfl) | (simp; done) | (simp [oneD] <;> omega) | (simp_all; done) | (simp_all [oneD] <;> omega)) (by first | exact Nat.le_refl _ | exact Nat.le_of_ble_eq_true rfl | (dsimp only; omega) | (simp <;> omega)) ?_
 refine .cond rfl rfl (fun hc => by simp at hc; omega) (fun hc => ?_)
 refine .skip ?_
 refine .seq ?_
 refine .plain Try.tmOk Try.tmMixed [0, 1, 2] (by decide +kernel) (by intro q hq; simp only [go_sem, appendD, Nat.reduceSub, Int.reduceEq, Nat.reduceLT, Nat.reduceDiv, Nat.reduceAdd, Nat.reduceBEq, Nat.reduceLeDiff, reduceCtorEq, Nat.reduceEqDiff, Nat.reduceMod, Try.tm_23, Try.tm_3, hck]; exact hq) (by first | rfl | (simp only [go_sem, Nat.reduceLeDiff]; done) | (simp only [go_sem, Nat.reduceLeDiff]; rfl) | (simp; done) | (simp [oneD] <;> omega) | (simp_all; done) | (simp_all [oneD] <;> omega)) (by first | exact Nat.le_refl _ | exact Nat.le_of_ble_eq_true rfl | (dsimp only; omega) | (simp <;> omega)) ?_
 refine .seq ?_
 refine .drawn Try.tmOk Try.tmMixed [0, 1, 2, 7] (by decide +kernel) (by intro q hq; simp only [go_sem, appendD, Nat.reduceSub, Int.reduceEq, Nat.reduceLT, Nat.reduceDiv, Nat.reduceAdd, Nat.reduceBEq, Nat.reduceLeDiff, reduceCtorEq, Nat.reduceEqDiff, Nat.reduceMod, Try.tm_23, Try.tm_3, hck, hm2, hcL, e5, q3, hl, Bool.and_self, Int.sub_zero, Int.toNat_zero, Nat.sub_zero, appendIn]; exact hq) (schedB_of (by kernel_rfl)) (by first | rfl | (simp only [go_sem, Nat.reduceLeDiff]; done) | (simp only [go_sem, Nat.reduceLeDiff]; rfl) | (simp; done) | (simp [oneD] <;> omega) | (simp_all; done) | (simp_all [oneD] <;> omega)) (by first | exact Nat.le_refl _ | exact Nat.le_of_ble_eq_true rfl | (dsimp only; omega) | (simp <;> omega)) ?_
 refine .seq ?_
 refine .plain Try.tmOk Try.tmMixed [0, 7] (by decide +kernel) (by intro q hq; simp only [go_sem, appendD, Nat.reduceSub, Int.reduceEq, Nat.reduceLT, Nat.reduceDiv, Nat.reduceAdd, Nat.reduceBEq, Nat.reduceLeDiff, reduceCtorEq, Nat.reduceEqDiff, Nat.reduceMod, Try.tm_23, Try.tm_3, hck, roomV, Option.isSome, q1, q2, t1, l2, Nat.zero_add]; exact hq) (by first | rfl | (simp only [go_sem, Nat.reduceLeDiff]; done) | (simp only [go_sem, Nat.reduceLeDiff]; rfl) | (simp; done) | (simp [oneD] <;> omega) | (simp_all; done) | (simp_all [oneD] <;> omega)) (by first | exact Nat.le_refl _ | exact Nat.le_of_ble_eq_true rfl | (dsimp only; omega) | (simp <;> omega)) ?_
 refine .goes (.pre i (L.length - 1) _ (by simp only [getL, Nat.beq_refl, cond_true]; rfl) .refl) ?_
 simp only [put, Nat.beq_refl, cond_true, t2]
 refine .seq ?_
 refine .plain Try.tmOk Try.tmMixed [0] (by decide +kernel) (by intro q hq; simp only [go_sem, appendD, Nat.reduceSub, Int.reduceEq, Nat.reduceLT, Nat.reduceDiv, Nat.reduceAdd, Nat.reduceBEq, Nat.reduceLeDiff, reduceCtorEq, Nat.reduceEqDiff, Nat.reduceMod, Try.tm_23, Try.tm_3, hck]; exact hq) (by first | rfl | (simp only [go_sem, Nat.reduceLeDiff]; done) | (simp only [go_sem, Nat.reduceLeDiff]; rfl) | (simp; done) | (simp [oneD] <;> omega) | (simp_all; done) | (simp_all [oneD] <;> omega)) (by first | exact Nat.le_refl _ | exact Nat.le_of_ble_eq_true rfl | (dsimp only; omega) | (simp <;> omega)) ?_
 refine .ret ⟨.inr rfl, retH [i] ?_ ?_⟩
 ·simp only [ResIs, resL, resD, resT, go_sem, appendD, Nat.reduceSub, Int.reduceEq, Nat.reduceLT, Nat.reduceDiv, Nat.reduceAdd, Nat.reduceBEq, Nat.reduceLeDiff, reduceCtorEq, Nat.reduceEqDiff, Nat.reduceMod, Try.f66]
 ·simp only [pickL, getL, effL, put, del, Nat.beq_refl, cond_true, cond_false, List.append_assoc, List.singleton_append, List.append_nil]
theorem del66 (i k : Nat) (hik : i ≠ k) (L : List D) (P : Bool) (at' : Nat) (hat : at' < L.length) (hL : L.length < 1000000) :
  CallH Try.prog 66 [.ref i 5 0 L.length (some unkC), .int .i64 (at' : Int), .int .i64 ((at' + 1 : Nat) : Int)] [(i, .arr 67 5 P L)] (.ref k 5 0 (L.length - 1) (some unkC)) [(k, some (.arr 67 5 P (L.take at' ++ L.drop (at' + 1)))), (i, none)] (k, k + 1) := by
 exact callH_capW (l := L) (p := P) ⟨Try.f66, Try.func66, by decide, rfl⟩ (by simp only [getL, Nat.beq_refl, cond_true]) hik (.inr (by omega))
   (fun c hc h1 _ => del66r i k L P at' c hc hat hL h1)
   (fun c hc h1 h2 => by omega)
end Go.Proofs
end
section
namespace Go.Proofs
open Go.Tm
theorem delT66 (i k : Nat) (hik : i ≠ k) (l : List TSeen) (at' : Int) (h : 0 ≤ at' ∧ at' < (l.length : Int)) (hl : l.length < 1000000) :
  CallH Try.prog 66 [.ref i 5 0 l.length (some unkC), .int .i64 at', .int .i64 (wr .i64 (at' + 1))] [(i, .arr 67 5 true (l.map TSeen.d))] (.ref k 5 0 (l.eraseIdx at'.toNat).length (some unkC)) [(k, some (.arr 67 5 true ((l.eraseIdx at'.toNat).map TSeen.d))), (i, none)] (k, k + 1) := by
 have t := del66 i k hik (l.map TSeen.d) true at'.toNat (by rw [List.length_map]; omega) (by rw [List.length_map]; exact hl)
 have hw : wr .i64 (at' + 1) = ((at'.toNat + 1 : Nat) : Int) := by
  rw [wr_eq _ _ (by show (-9223372036854775808 : Int) ≤ _; omega) (by show _ ≤ (9223372036854775807 : Int); omega)]
  omega
 rw [Int.toNat_of_nonneg h.1, List.length_map, take_map, drop_map, ← List.map_append, ← List.eraseIdx_eq_take_drop_succ, ← hw] at t
 have e : l.length - 1 = (l.eraseIdx at'.toNat).length := by rw [List.length_eraseIdx_of_lt (by omega)]
 rw [e] at t
 exact t
end Go.Proofs
end
section
namespace Go.Proofs
open Go.Tm
set_option linter.unusedVariables false
def m_stable_put (a0 : TStable) (a1 : TRecord) : Option (Int × TStable) :=
 if a1.Group ≥ (a0.Logs.length : Int) then
 some (6, a0)
 else
 if (0 ≤ a1.Group ∧ a1.Group < (a0.Logs.length : Int)) then
 if (a1.Slot ≤ ((a0.Logs.getD a1.Group.toNat default).length : Int)) ∨ ((a1.Kind = 3) ∧ (¬ (a1.Slot = (wr .i64 (((a0.Logs.getD a1.Group.toNat default).length : Int) + 1))))) then
 some (8, a0)
 else
 Option.bind (m_slices_BinarySearchFunc_Seen_Seen_Seen a0.Votes (⟨a1.Group, a1.Slot, (⟨0, 0, []⟩ : TVote)⟩ : TSeen) m_stable_place) fun v1 =>
 Option.bind (α := Int × Int × Int × Int × (List UInt8)) (if v1.2 = true then
 if (0 ≤ v1.1 ∧ v1.1 < (a0.Votes.length : Int)) then
 some ((a0.Votes.getD v1.1.toNat default).Group, (a0.Votes.getD v1.1.toNat default).Slot, (a0.Votes.getD v1.1.toNat default).Vote.Promised, (a0.Votes.getD v1.1.toNat default).Vote.Ballot, (a0.Votes.getD v1.1.toNat default).Vote.Value)
 else none
 else
 some (a1.Group, a1.Slot, 0, 0, [])) fun (n1, n2, n3, n4, s1) =>
 Option.bind (α := (Int × TStable) ⊕ (Int × Int × (List UInt8) × Int)) (if a1.Kind = 1 then
 Option.bind (m_vote_Prepare (⟨n3, n4, s1⟩ : TVote) a1.Ballot) fun v2 =>
 some (.inr (v2.1.Promised, v2.1.Ballot, v2.1.Value, v2.2))
 else
 if a1.Kind = 2 then
 Option.bind (m_vote_Accept (⟨n3, n4, s1⟩ : TVote) a1.Ballot a1.Value) fun v3 =>
 some (.inr (v3.1.Promised, v3.1.Ballot, v3.1.Value, v3.2))
 else
 Option.bind (α := (List TSeen)) (if v1.2 = true then
 if 0 ≤ v1.1 ∧ v1.1 < (a0.Votes.length : Int) then
 if a0.Votes.length < 1000000 then
 some (a0.Votes.eraseIdx v1.1.toNat)
 else none
 else none
 else
 some a0.Votes) fun l1 =>
 some (.inl (0, (⟨(a0.Logs.set a1.Group.toNat ((a0.Logs.getD a1.Group.toNat default) ++ [a1.Value])), l1⟩ : TStable)))) fun z => match z with
 | (.inl r) => some r
 | (.inr (n5, n6, s2, n7)) =>
 if ¬ (n7 = 0) then
 some (n7, a0)
 else
 Option.bind (α := (List TSeen)) (if ¬ (v1.2 = true) then
 if 0 ≤ v1.1 ∧ v1.1 ≤ (a0.Votes.length : Int) then
 if a0.Votes.length < 1000000 then
 some ((a0.Votes.take v1.1.toNat) ++ ((⟨n1, n2, (⟨n5, n6, s2⟩ : TVote)⟩ : TSeen) :: (a0.Votes.drop v1.1.toNat)))
 else none
 else none
 else
 some a0.Votes) fun l2 =>
 if (0 ≤ v1.1 ∧ v1.1 < (l2.length : Int)) then
 some (0, (⟨a0.Logs, (l2.set v1.1.toNat (⟨n1, n2, (⟨n5, n6, s2⟩ : TVote)⟩ : TSeen))⟩ : TStable))
 else none
 else none
def m_stable_Apply (a0 : TStable) (a1 : TRecord) : Option (TStable × Int) :=
 Option.bind (m_stable_Check a0) fun v1 =>
 if ¬ (v1 = 0) then
 some ((⟨[], []⟩ : TStable), v1)
 else
 Option.bind (m_record_Check a1) fun v2 =>
 if ¬ (v2 = 0) then
 some ((⟨[], []⟩ : TStable), v2)
 else
 Option.bind (m_stable_Twin a0) fun v3 =>
 Option.bind (m_stable_put v3 a1) fun v4 =>
 if ¬ (v4.1 = 0) then
 some ((⟨[], []⟩ : TStable), v4.1)
 else
 some (v4.2, 0)
end Go.Proofs
end

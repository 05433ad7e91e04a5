/- Texts of the proof. -/
import Derived.Test.YtkfipajabmhkbaaChecked
import Derived.KernelRfl
import Derived.Test.YtkfipajabmhkbaaStableBackPf
section
namespace Go.Tm
open Go.RowKit Go.WideShapes
def Goes (lim n0 : Nat) (st s : St) : Prop :=
 ∀ (E : En) (n : Nat) (F : FrS) (a : Act) (w : World) (g : Gh), (∀ id, n0 ≤ id → id < lim → E.nu0 id = true) → F.on lim st → Rel E n F a w g → ∃ F' g', F'.on lim s ∧ Rel E n F' a w g'
theorem Goes.trans {lim n0 : Nat} {a b c : St} (h : Goes lim n0 a b) (k : Goes lim n0 b c) : Goes lim n0 a c := by
 intro E n F ac w g hE hF hR
 obtain ⟨F1, g1, hF1, hR1⟩ := h E n F ac w g hE hF hR
 exact k E n F1 ac w g1 hE hF1 hR1
theorem Goes.mv {lim n0 : Nat} {st s : St} (V H : List Nat) (ps : List (Nat × Nat)) (h1 : (⟨mvV (mvF ps) (pickL V st.vars), mvH (mvF ps) (pickL H st.heap), s.nx⟩ : St) = s) (h2 : n0 ≤ s.nx) (h3 : s.nx ≤ lim) (h4 : mvOk ps n0 s.nx (idsV (pickL V st.vars) ++ idsH (pickL H st.heap)) = true) : Goes lim n0 st s :=
 fun _ _ _ _ _ _ hE hF hR => hR.mvTo hF hE ⟨h1, h2, h3, h4⟩
theorem Goes.weak {lim n0 : Nat} {st s : St} (t : Nat) (d d' : D) (hd : getR st.vars t = d) (hw : Wk d d') (h : Goes lim n0 ⟨put st.vars t d', st.heap, st.nx⟩ s) : Goes lim n0 st s := by
 intro E n F a w g hE hF hR
 obtain ⟨h1, h2, h3⟩ := hF
 refine h E n ⟨getR (put st.vars t d'), F.hp, F.nu⟩ a w g hE ⟨rfl, h2, h3⟩ ⟨hR.sz, hR.df, fun u => ?_, hR.mem, hR.base, hR.keep, hR.gz, hR.gs, hR.nu⟩
 have hu := hR.rd u
 show rep (cx w g F.hp) (getR (put st.vars t d') u) _
 rw [h1] at hu
 have hg : getR (put st.vars t d') u = if t = u then d' else getR st.vars u := by
  unfold getR
  rw [getL_put]
  by_cases hh : t = u <;> simp [hh]
 rw [hg]
 by_cases htu : t = u
 ·subst htu
  rw [if_pos rfl]
  rw [hd] at hu
  exact hw _ _ hu
 ·rw [if_neg htu]; exact hu
theorem Goes.own0 {lim n0 : Nat} {st s : St} (t s0 s' k : Nat) (e : TypeId) (ht : getL st.vars t = some (.imm s0 [] k)) (hk : k % 8 ≤ 1) (hn : st.nx < lim)
  (h : Goes lim n0 ⟨put st.vars t (.ref st.nx s' 0 0 (some 0)), put st.heap st.nx (.arr e s' true []), st.nx + 1⟩ s) : Goes lim n0 st s := by
 intro E n F a w g hE hF hR
 obtain ⟨h1, h2, h3⟩ := hF
 have hnu : F.nu st.nx = true := h3 st.nx (Nat.le_refl _) hn
 obtain ⟨g1, _⟩ := Rel.made hR (m := st.nx) (blk := .arr e s' true []) (loc := none) (kl := none) (w' := w) hnu ((Keep.refl _ w).mono fun _ _ h => h) (by rintro b o h; cases h) (by
  intro C hC hle hrf hσ
  exact .inl ⟨rfl, hσ⟩)
 have hp : effH F.hp ((st.nx, some (.arr e s' true [])) :: kill none) = getL (put st.heap st.nx (.arr e s' true [])) := by
  funext i
  rw [getL_put, h2]
  simp only [effH, kill, getL]
  by_cases hi : st.nx = i
  ·subst hi; simp
  ·simp [beq_ne hi, hi]
 refine h E n ⟨getR (put st.vars t (.ref st.nx s' 0 0 (some 0))), (F.eff ((st.nx, some (.arr e s' true [])) :: kill none) (st.nx, st.nx + 1)).hp, (F.eff ((st.nx, some (.arr e s' true [])) :: kill none) (st.nx, st.nx + 1)).nu⟩ a w (setσ g st.nx none) hE ⟨rfl, hp, fun id k1 k2 => ?_⟩ ⟨g1.sz, g1.df, fun u => ?_, g1.mem, g1.base, g1.keep, g1.gz, g1.gs, g1.nu⟩
 ·have k1 : st.nx + 1 ≤ id := k1
  have := h3 id (by omega) k2
  simp only [FrS.eff, effN, this, Bool.true_and, Bool.not_eq_true', Bool.and_eq_false_iff, decide_eq_false_iff_not]
  right
  omega
 ·have hu := g1.rd u
  have hrd : (F.eff ((st.nx, some (.arr e s' true [])) :: kill none) (st.nx, st.nx + 1)).rd u = getR st.vars u := by rw [← h1]; rfl
  rw [hrd] at hu
  show rep (cx w (setσ g st.nx none) (F.eff ((st.nx, some (.arr e s' true [])) :: kill none) (st.nx, st.nx + 1)).hp) (getR (put st.vars t (.ref st.nx s' 0 0 (some 0))) u) (a.eval (.tmp u))
  have hg : getR (put st.vars t (.ref st.nx s' 0 0 (some 0))) u = if t = u then .ref st.nx s' 0 0 (some 0) else getR st.vars u := by
   unfold getR
   rw [getL_put]
   by_cases hh : t = u <;> simp [hh]
  rw [hg]
  by_cases htu : t = u
  ·subst htu
   rw [if_pos rfl]
   have e1 : getR st.vars t = .imm s0 [] k := by unfold getR; rw [ht]
   rw [e1] at hu
   simp only [rep] at hu ⊢
   obtain ⟨ad, cap, he, k1, k2, k3, k4, k5, k6, _⟩ := hu
   have hc : cap = 0 := k5 (.inl hk)
   subst hc
   exact ⟨rfl, ad, 0, he, by simp, by simp, by simp, ⟨fun c hc _ => by cases hc; rfl, fun hc => by cases hc⟩, .inl rfl⟩
  ·rw [if_neg htu]; exact hu
theorem Ok.goes {P : Program} {lim n : Nat} {c : Code} {st s : St} {Q : Exit → St → Prop} (h : Goes lim st.nx st s) (k : Ok P lim n c s Q) : Ok P lim n c st Q := by
 intro E F a w g hF hR
 obtain ⟨F', g', hF', hR'⟩ := h E n F a w g (fun id h1 h2 => hR.nu id (hF.2.2 id h1 h2)) hF hR
 exact k E F' a w g' hF' hR'
def cutQ {ι : Type} (lim n0 : Nat) (M : ι → St) (Pr : ι → Prop) (Q : Exit → St → Prop) : Exit → St → Prop := fun e s => match e with | .normal => ∃ j, Goes lim n0 s (M j) ∧ Pr j | e => Q e s
theorem Ok.seqM {P : Program} {lim n : Nat} {x y : Code} {st : St} {Q : Exit → St → Prop} {ι : Type} (n0 : Nat) (M : ι → St) (Pr : ι → Prop) (hn : st.nx ≤ n0) (h1 : Ok P lim n x st (cutQ lim n0 M Pr Q)) (h2 : ∀ j, Pr j → Ok P lim n y (M j) Q) : Ok P lim n (.seq x y) st Q := by
 intro E F a w g hF hR
 have hE : ∀ id, n0 ≤ id → id < lim → E.nu0 id = true := fun id h1 h2 => hR.nu id (hF.2.2 id (Nat.le_trans hn h1) h2)
 refine wp_seq (wp_mono (h1 E F a w g hF hR) ?_)
 rintro e a' w' ⟨st', F', g', hq, hF', hR'⟩
 cases e with
 | normal =>
  obtain ⟨j, h3, h4⟩ := hq
  obtain ⟨F2, g2, hF2, hR2⟩ := h3 E n F' a' w' g' hE hF' hR'
  exact h2 j h4 E F2 a' w' g2 hF2 hR2
 | exit id => exact ⟨st', F', g', hq, hF', hR'⟩
 | goto l => exact ⟨st', F', g', hq, hF', hR'⟩
 | ret => exact ⟨st', F', g', hq, hF', hR'⟩
 | panic ch => exact ⟨st', F', g', hq, hF', hR'⟩
 | outgrown => exact ⟨st', F', g', hq, hF', hR'⟩
def loopQG {ι : Type} (lim n0 : Nat) (S : ι → St) (Pr : ι → Prop) (μ : ι → Nat) (i : ι) (Q : Exit → St → Prop) : Exit → St → Prop := fun e st' => match e with | .normal => ∃ j, Goes lim n0 st' (S j) ∧ Pr j ∧ μ j < μ i | e => Q e st'
theorem Ok.loopG {P : Program} {lim n : Nat} {c : Code} {st : St} {Q : Exit → St → Prop} {ι : Type} (n0 : Nat) (S : ι → St) (Pr : ι → Prop) (μ : ι → Nat) (i0 : ι) (hn : st.nx ≤ n0) (hs : Goes lim n0 st (S i0)) (h0 : Pr i0)
  (round : ∀ i, Pr i → Ok P lim n c (S i) (loopQG lim n0 S Pr μ i Q)) : Ok P lim n (.loop c) st Q := by
 intro E F a w g hF hR b k cs
 have hE : ∀ id, n0 ≤ id → id < lim → E.nu0 id = true := fun id h1 h2 => hR.nu id (hF.2.2 id (Nat.le_trans hn h1) h2)
 have key : ∀ m i, μ i = m → Pr i → ∀ (F : FrS) (a : Act) (w : World) (g : Gh), F.on lim (S i) → Rel E n F a w g → ∃ e a' w', (∃ st' F' g', Q e st' ∧ F'.on lim st' ∧ Rel E n F' a' w' g') ∧ Arrives P (lone (b.at a (.code c :: .inLoop c :: k)) cs w) b k cs e a' w' := by
  intro m
  induction m using Nat.strongRecOn with
  | _ m ih =>
   intro i hm hI F a w g hF hR
   obtain ⟨e, a₁, w₁, ⟨st', F', g', hq, hF', hrel⟩, harr⟩ := round i hI E F a w g hF hR b (.inLoop c :: k) cs
   cases e with
   | normal =>
    obtain ⟨j, h1, h2, h3⟩ := hq
    obtain ⟨F2, g2, hF2, hR2⟩ := h1 E n F' a₁ w₁ g' hE hF' hrel
    obtain ⟨e₂, a₂, w₂, hq₂, harr₂⟩ := ih (μ j) (hm ▸ h3) j rfl h2 F2 a₁ w₁ g2 hF2 hR2
    exact ⟨e₂, a₂, w₂, hq₂, .of_steps (Steps.trans harr (.one step_inLoop)) harr₂⟩
   | exit id => exact ⟨_, a₁, w₁, ⟨st', F', g', hq, hF', hrel⟩, .pass (x := .inLoop c) rfl (fun _ _ => .inl (by simp)) harr⟩
   | goto l => exact ⟨_, a₁, w₁, ⟨st', F', g', hq, hF', hrel⟩, .pass (x := .inLoop c) rfl (fun _ _ => .inl (by simp)) harr⟩
   | ret => exact ⟨_, a₁, w₁, ⟨st', F', g', hq, hF', hrel⟩, .pass (x := .inLoop c) rfl (fun _ _ => .inl (by simp)) harr⟩
   | panic ch => exact ⟨_, a₁, w₁, ⟨st', F', g', hq, hF', hrel⟩, .pass (x := .inLoop c) rfl (fun _ _ => .inl (by simp)) harr⟩
   | outgrown => exact ⟨_, a₁, w₁, ⟨st', F', g', hq, hF', hrel⟩, .pass (x := .inLoop c) rfl (fun _ _ => .inl (by simp)) harr⟩
 obtain ⟨F1, g1, hF1, hR1⟩ := hs E n F a w g hE hF hR
 obtain ⟨e, a', w', hq, harr⟩ := key _ i0 rfl h0 F1 a w g1 hF1 hR1
 exact ⟨e, a', w', hq, .of_steps (.one step_loop) harr⟩
theorem bind_some {α β : Type} {o : Option α} {f : α → Option β} {r : β} (h : o.bind f = some r) : ∃ x, o = some x ∧ f x = some r := by
 cases o with
 | none => cases h
 | some x => exact ⟨x, rfl, h⟩
theorem ite_l {α : Type} {c : Prop} [Decidable c] {a b r : α} (h : (if c then a else b) = r) (hc : c) : a = r := by rw [if_pos hc] at h; exact h
theorem ite_r {α : Type} {c : Prop} [Decidable c] {a b r : α} (h : (if c then a else b) = r) (hc : ¬ c) : b = r := by rw [if_neg hc] at h; exact h
theorem ite_ck {α : Type} {c : Prop} [Decidable c] {a : Option α} {r : α} (h : (if c then a else none) = some r) : c ∧ a = some r := by
 by_cases hc : c
 ·exact ⟨hc, ite_l h hc⟩
 ·rw [if_neg hc] at h; cases h
theorem wr_succ {i n : Nat} (h : i < n) (hn : (n : Int) ≤ 9223372036854775807) : wr .i64 ((i : Int) + 1) = ((i + 1 : Nat) : Int) :=
 wr_eq _ _ (by show (-9223372036854775808 : Int) ≤ _; omega) (by show _ ≤ (9223372036854775807 : Int); omega)
theorem nth_mapD {α : Type} [Inhabited α] (f : α → D) (l : List α) (i : Nat) (h : i < l.length) : nth (l.map f) i = f (l.getD i default) := by
 rw [nth_map f l i h]; simp [h]
theorem nth_mapI {α : Type} [Inhabited α] (f : α → D) (l : List α) (i : Int) (h : 0 ≤ i ∧ i < (l.length : Int)) : nth (l.map f) i.toNat = f (l.getD i.toNat default) :=
 nth_mapD f l _ (by omega)
theorem Ok.wf {P : Program} {lim n : Nat} {c : Code} {st : St} {Q : Exit → St → Prop} (t : Nat) (d : D) (hd : getR st.vars t = d) (h : Tm.wf d → Ok P lim n c st Q) : Ok P lim n c st Q := by
 intro E F a w g hF hR
 refine h ?_ E F a w g hF hR
 have := hR.rd t
 rw [hF.1, hd] at this
 exact rep_wf _ _ this
structure Pl {α : Type} (f : α → D) : Prop where
 un : ∀ x, unf (f x) = f x
 ids : ∀ x, (f x).ids = []
 ok : ∀ q, q 0 = true → ∀ x, okM q (f x) = true
theorem pl_int (k : IntKind) : Pl (D.int k) := ⟨fun _ => rfl, fun _ => rfl, fun _ _ _ => rfl⟩
theorem pl_str : Pl D.str := ⟨fun _ => rfl, fun _ => rfl, fun _ _ _ => rfl⟩
section
variable {α : Type} {f : α → D} (hf : Pl f)
include hf
theorem Pl.unfL (l : List α) : Tm.unfL (l.map f) = l.map f := by
 induction l with
 | nil => rfl
 | cons x l ih => simp only [List.map_cons, Tm.unfL, hf.un, ih]
theorem Pl.idsL (l : List α) : D.idsL (l.map f) = [] := by
 induction l with
 | nil => rfl
 | cons x l ih => simp only [List.map_cons, D.idsL, hf.ids, ih, List.nil_append]
theorem Pl.okML (q : Nat → Bool) (h : q 0 = true) (l : List α) : Tm.okML q (l.map f) = true := by
 induction l with
 | nil => rfl
 | cons x l ih => simp only [List.map_cons, Tm.okML, hf.ok q h, ih, Bool.and_self]
theorem lend_ref {hp : Nat → Option Blk} {id s e n : Nat} {oc : Option Nat} {l : List α} (h : hp id = some (.arr e s true (l.map f))) (hn : n = l.length) : lend hp (.ref id s 0 n oc) = (.imm s (l.map f) 4, true) := by
 subst hn
 have ht : (l.map f).take l.length = l.map f := List.take_of_length_le (by simp)
 simp only [lend, h, List.drop_zero, ht, hf.unfL, hf.okML low3 rfl, hf.idsL, List.length_map, Nat.zero_add, Nat.beq_refl, List.isEmpty_nil, Bool.and_true, Bool.true_and, Prod.mk.injEq, true_and]
 exact Nat.ble_eq_true_of_le (Nat.le_refl _)
end
theorem lends_cons {hp : Nat → Option Blk} {d d' : D} {l l' : List D} (h : lend hp d = (d', true)) (hl : lends hp l = (l', true)) : lends hp (d :: l) = (d' :: l', true) := by
 simp only [lends, h, hl, Bool.and_self]
def WkG (d d' : D) : Prop := ∀ (fr : Nat) (w : World) (g : Gh) (hp : Nat → Option Blk) (nu : Nat → Bool), Mem fr w g hp nu → ∀ v, rep (cx w g hp) d v → rep (cx w g hp) d' v
theorem WkG.of {d d' : D} (h : Wk d d') : WkG d d' := fun _ _ _ _ _ _ _ hv => h _ _ hv
theorem WkG.unk (id s off len : Nat) (oc : Option Nat) : WkG (.ref id s off len oc) (.ref id s off len (some unkC)) := .of (Wk.unk _ _ _ _ _)
theorem WkG.own0 (id s s0 k : Nat) (hk : k % 8 ≤ 1) : WkG (.imm s0 [] k) (.ref id s 0 0 (some unkC)) := by
 intro fr w g hp nu _ v h
 simp only [rep] at h ⊢
 obtain ⟨ad, cap, rfl, k1, k2, k3, k4, k5, k6, _⟩ := h
 have hc : cap = 0 := k5 (.inl hk)
 subst hc
 exact ⟨rfl, ad, 0, rfl, by simp, by simp, by simp, ⟨(fun c h hk => by cases h; cases hk), (fun h => by cases h)⟩, .inl rfl⟩
theorem Goes.wk {lim n0 : Nat} {st s : St} (t : Nat) (d d' : D) (hd : getR st.vars t = d) (hw : WkG d d') (h : Goes lim n0 ⟨put st.vars t d', st.heap, st.nx⟩ s) : Goes lim n0 st s := by
 intro E n F a w g hE hF hR
 obtain ⟨h1, h2, h3⟩ := hF
 refine h E n ⟨getR (put st.vars t d'), F.hp, F.nu⟩ a w g hE ⟨rfl, h2, h3⟩ ⟨hR.sz, hR.df, fun u => ?_, hR.mem, hR.base, hR.keep, hR.gz, hR.gs, hR.nu⟩
 have hu := hR.rd u
 show rep (cx w g F.hp) (getR (put st.vars t d') u) _
 rw [h1] at hu
 have hg : getR (put st.vars t d') u = if t = u then d' else getR st.vars u := by
  unfold getR
  rw [getL_put]
  by_cases hh : t = u <;> simp [hh]
 rw [hg]
 by_cases htu : t = u
 ·subst htu
  rw [if_pos rfl]
  rw [hd] at hu
  exact hw _ _ _ _ _ hR.mem _ hu
 ·rw [if_neg htu]; exact hu
theorem reps_swap {C : Cx} {d d' : D} {post : List D} (h : ∀ v, rep C d v → rep C d' v) : ∀ (pre : List D) (vs : List Value), reps C (pre ++ d :: post) vs → reps C (pre ++ d' :: post) vs
 | [], vs, hr => by
  simp only [List.nil_append, reps] at hr ⊢
  obtain ⟨v, vs', e, h1, h2⟩ := hr
  exact ⟨v, vs', e, h v h1, h2⟩
 | p :: pre, vs, hr => by
  simp only [List.cons_append, reps] at hr ⊢
  obtain ⟨v, vs', e, h1, h2⟩ := hr
  exact ⟨v, vs', e, h1, reps_swap h pre vs' h2⟩
theorem WkG.agg (pre : List D) {d d' : D} (post : List D) (h : WkG d d') : WkG (.agg (pre ++ d :: post)) (.agg (pre ++ d' :: post)) := by
 intro fr w g hp nu hM v hv
 simp only [rep] at hv ⊢
 obtain ⟨cs, e, hc⟩ := hv
 exact ⟨cs, e, reps_swap (fun v hv => h fr w g hp nu hM v hv) pre _ hc⟩
theorem Goes.box {lim n0 : Nat} {st s : St} (id : Nat) (pre : List D) (d d' : D) (post : List D) (hd : getL st.heap id = some (.box (pre ++ d :: post))) (hw : WkG d d') (h : Goes lim n0 ⟨st.vars, put st.heap id (.box (pre ++ d' :: post)), st.nx⟩ s) : Goes lim n0 st s := by
 intro E n F a w g hE hF hR
 obtain ⟨h1, h2, h3⟩ := hF
 have hid : F.hp id = some (.box (pre ++ d :: post)) := by rw [h2]; exact hd
 have hp : ∀ i, getL (put st.heap id (.box (pre ++ d' :: post))) i = if id = i then some (.box (pre ++ d' :: post)) else F.hp i := by
  intro i; rw [getL_put, h2]
 have hne : ∀ i, getL (put st.heap id (.box (pre ++ d' :: post))) i ≠ none ↔ F.hp i ≠ none := by
  intro i
  rw [hp]
  by_cases e : id = i
  ·subst e; simp [hid]
  ·rw [if_neg e]
 have hown : ownB g (getL (put st.heap id (.box (pre ++ d' :: post)))) = ownB g F.hp := by
  funext b
  apply propext
  constructor
  ·rintro ⟨i, o, k1, k2⟩; exact ⟨i, o, (hne i).1 k1, k2⟩
  ·rintro ⟨i, o, k1, k2⟩; exact ⟨i, o, (hne i).2 k1, k2⟩
 have hcx : cx w g (getL (put st.heap id (.box (pre ++ d' :: post)))) = cx w g F.hp := by simp only [cx, hown]
 refine h E n ⟨F.rd, getL (put st.heap id (.box (pre ++ d' :: post))), F.nu⟩ a w g hE ⟨h1, rfl, h3⟩ ⟨hR.sz, hR.df, fun t => by rw [hcx]; exact hR.rd t, ⟨fun i blk hb => ?_, fun i i' b o o' k1 k2 => hR.mem.inj i i' b o o' ((hne i).1 k1) ((hne i').1 k2), fun i hi => ?_, ?_, hR.mem.fl⟩, fun i b o k1 => hR.base i b o ((hne i).1 k1), hR.keep, hR.gz, hR.gs, hR.nu⟩
 ·have hb : getL (put st.heap id (.box (pre ++ d' :: post))) i = some blk := hb
  rw [hcx]
  rw [hp] at hb
  by_cases e : id = i
  ·subst e
   rw [if_pos rfl] at hb
   cases hb
   obtain ⟨b, cs, T, e1, e2, e3, e4⟩ := hR.mem.hd id _ hid
   exact ⟨b, cs, T, e1, e2, reps_swap (fun v hv => hw _ _ _ _ _ hR.mem v hv) pre _ e3, e4⟩
  ·rw [if_neg e] at hb
   exact hR.mem.hd i blk hb
 ·obtain ⟨k1, k2⟩ := hR.mem.nw i hi
  refine ⟨k1, ?_⟩
  rcases Classical.em (getL (put st.heap id (.box (pre ++ d' :: post))) i = none) with e | e
  ·exact e
  ·exact absurd k2 ((hne i).1 e)
 ·rw [hown]; exact hR.mem.zs
theorem Goes.new0 {lim n0 : Nat} {st s : St} (s' : Nat) (e : TypeId) (hn : st.nx < lim) (h : Goes lim n0 ⟨st.vars, put st.heap st.nx (.arr e s' true []), st.nx + 1⟩ s) : Goes lim n0 st s := by
 intro E n F a w g hE hF hR
 obtain ⟨h1, h2, h3⟩ := hF
 have hnu : F.nu st.nx = true := h3 st.nx (Nat.le_refl _) hn
 obtain ⟨g1, _⟩ := Rel.made hR (m := st.nx) (blk := .arr e s' true []) (loc := none) (kl := none) (w' := w) hnu ((Keep.refl _ w).mono fun _ _ h => h) (by rintro b o h; cases h) (by
  intro C hC hle hrf hσ
  exact .inl ⟨rfl, hσ⟩)
 have hp : effH F.hp ((st.nx, some (.arr e s' true [])) :: kill none) = getL (put st.heap st.nx (.arr e s' true [])) := by
  funext i
  rw [getL_put, h2]
  simp only [effH, kill, getL]
  by_cases hi : st.nx = i
  ·subst hi; simp
  ·simp [beq_ne hi, hi]
 refine h E n ⟨F.rd, (F.eff ((st.nx, some (.arr e s' true [])) :: kill none) (st.nx, st.nx + 1)).hp, (F.eff ((st.nx, some (.arr e s' true [])) :: kill none) (st.nx, st.nx + 1)).nu⟩ a w (setσ g st.nx none) hE ⟨h1, hp, fun id k1 k2 => ?_⟩ ⟨g1.sz, g1.df, g1.rd, g1.mem, g1.base, g1.keep, g1.gz, g1.gs, g1.nu⟩
 have k1 : st.nx + 1 ≤ id := k1
 have := h3 id (by omega) k2
 simp only [FrS.eff, effN, this, Bool.true_and, Bool.not_eq_true', Bool.and_eq_false_iff, decide_eq_false_iff_not]
 right
 omega
theorem Ok.ends {P : Program} {lim n : Nat} {c : Code} {st : St} {Q : Exit → St → Prop} (n0 : Nat) (hn : st.nx ≤ n0) (h : Ok P lim n c st fun e s => ∃ s', Goes lim n0 s s' ∧ Q e s') : Ok P lim n c st Q := by
 intro E F a w g hF hR
 have hE : ∀ id, n0 ≤ id → id < lim → E.nu0 id = true := fun id h1 h2 => hR.nu id (hF.2.2 id (Nat.le_trans hn h1) h2)
 refine wp_mono (h E F a w g hF hR) ?_
 rintro e a' w' ⟨st', F', g', ⟨s', h1, h2⟩, hF', hR'⟩
 obtain ⟨F2, g2, hF2, hR2⟩ := h1 E n F' a' w' g' hE hF' hR'
 exact ⟨s', F2, g2, h2, hF2, hR2⟩
theorem lend2_of {hp : Nat → Option Blk} {d d' : D} (h : lend hp d = (d', true)) (hd : match d with | .ptr _ _ => False | .fn _ _ => False | _ => True) : lend2 hp d = (d', true) := by
 cases d <;> first | exact hd.elim | (simp only [lend2]; exact h)
theorem lend2_fn {hp : Nat → Option Blk} {f : Fn} {l l' : List D} (h : lend2s hp l = (l', true)) : lend2 hp (.fn f l) = (.fn f l', true) := by simp only [lend2, h]
theorem lend2s_nil {hp : Nat → Option Blk} : lend2s hp [] = ([], true) := rfl
theorem lend2s_cons {hp : Nat → Option Blk} {d d' : D} {l l' : List D} (h : lend2 hp d = (d', true)) (hl : lend2s hp l = (l', true)) : lend2s hp (d :: l) = (d' :: l', true) := by
 simp only [lend2s, h, hl, Bool.and_self]
theorem frz_ref {α : Type} {f : α → D} (hf : Pl f) (hk : ∀ l : List α, okML new1 (l.map f) = true) {hp : Nat → Option Blk} {id s e n : Nat} {oc : Option Nat} {l : List α} (h : hp id = some (.arr e s true (l.map f))) (hn : n = l.length) : frz hp (.ref id s 0 n oc) = (.imm s (l.map f) 12, true) := by
 subst hn
 have ht : (l.map f).take l.length = l.map f := List.take_of_length_le (by simp)
 simp only [frz, h, List.drop_zero, ht, hf.unfL, hk, hf.idsL, List.length_map, Nat.zero_add, Nat.beq_refl, List.isEmpty_nil, Bool.and_true, Bool.true_and, Prod.mk.injEq, true_and]
 exact Nat.ble_eq_true_of_le (Nat.le_refl _)
theorem frz_tup {hp : Nat → Option Blk} {l l' : List D} (h : frzs hp l = (l', true)) : frz hp (.tuple l) = (.tuple l', true) := by simp only [frz, h]
theorem frzs_nil {hp : Nat → Option Blk} : frzs hp [] = ([], true) := rfl
theorem frzs_cons {hp : Nat → Option Blk} {d d' : D} {l l' : List D} (h : frz hp d = (d', true)) (hl : frzs hp l = (l', true)) : frzs hp (d :: l) = (d' :: l', true) := by
 simp only [frzs, h, hl, Bool.and_self]
structure Pl0 {α : Type} (f : α → D) : Prop extends Pl f where
 no : ∀ q x, okM q (f x) = true
theorem Pl0.okML {α : Type} {f : α → D} (hf : Pl0 f) (q : Nat → Bool) (l : List α) : Tm.okML q (l.map f) = true := by
 induction l with
 | nil => rfl
 | cons x l ih => simp only [List.map_cons, Tm.okML, hf.no q, ih, Bool.and_self]
theorem pl0_str : Pl0 D.str := ⟨pl_str, fun _ _ => rfl⟩
theorem frz_ref0 {α : Type} {f : α → D} (hf : Pl0 f) {hp : Nat → Option Blk} {id s e n : Nat} {oc : Option Nat} {l : List α} (h : hp id = some (.arr e s true (l.map f))) (hn : n = l.length) : frz hp (.ref id s 0 n oc) = (.imm s (l.map f) 12, true) := frz_ref hf.toPl (hf.okML new1) h hn
theorem newB_arr {α : Type} {f : α → D} (hf : Pl0 f) (e s : Nat) (l : List α) : newB (some (.arr e s true (l.map f))) = true := by simp only [newB, hf.okML, Bool.and_self]
theorem newE_cons {nw : Nat × Nat} {i : Nat} {b : Option Blk} {r : List (Nat × Option Blk)} (h1 : Nat.ble nw.1 i = true) (h2 : Nat.blt i nw.2 = true) (h3 : newB b = true) (h4 : newE nw r = true) : newE nw ((i, b) :: r) = true := by simp only [newE, h1, h2, h3, h4, Bool.and_self]
theorem newE_nil {nw : Nat × Nat} : newE nw [] = true := rfl
theorem callH_at {P : Program} {K : FuncId} {args : List D} {r : D} {eff : List (Nat × Option Blk)} {m : Nat} (n : Nat) (hn : m ≤ n) (h : CallH P K args [] r eff (0, m)) : CallH P K (D.renL (bsw 0 n m) args) [] (r.ren (bsw 0 n m)) (renE (bsw 0 n m) eff) (n, n + m) := by
 refine callH_ren (π := bsw 0 n m) (bsw_bsw (by omega)) (n, n + m) (fun id h1 h2 => ?_) h
 have h2 : id < m := h2
 have e : (Nat.ble 0 id && Nat.blt id (0 + m)) = true := by
  simp only [Bool.and_eq_true]
  exact ⟨Nat.ble_eq_true_of_le (Nat.zero_le _), Nat.ble_eq_true_of_le (by omega)⟩
 simp only [bsw, e, cond_true]
 omega
theorem Ok.wfb {P : Program} {lim n : Nat} {c : Code} {st : St} {Q : Exit → St → Prop} (id : Nat) (cells : List D) (hd : getL st.heap id = some (.box cells)) (h : wfL cells → Ok P lim n c st Q) : Ok P lim n c st Q := by
 intro E F a w g hF hR
 refine h ?_ E F a w g hF hR
 obtain ⟨b, cs, T, _, _, e3, _⟩ := hR.mem.hd id (.box cells) (by rw [hF.2.1]; exact hd)
 exact reps_wf _ _ e3
theorem wr_pred {i n : Nat} (h : i < n) (hn : (n : Int) ≤ 9223372036854775807) : wr .i64 ((i : Int) - 1) = (i : Int) - 1 :=
 wr_eq _ _ (by show (-9223372036854775808 : Int) ≤ _; omega) (by show _ ≤ (9223372036854775807 : Int); omega)
theorem toNat_pred (i : Nat) : ((i : Int) - 1).toNat = i - 1 := by omega
theorem nth_or {α : Type} [Inhabited α] (f : α → D) (l : List α) (n : Nat) : nth (l.map f) n = f (l.getD n default) ∨ nth (l.map f) n = .undef := by
 by_cases h : n < l.length
 ·exact .inl (nth_mapD f l n h)
 ·right
  unfold nth
  simp [Nat.le_of_not_lt h]
mutual
theorem ren_noids (f : Nat → Nat) : ∀ d : D, d.ids = [] → d.ren f = d
 | .agg l, h => by simp only [D.ren, renL_noids f l (by simpa only [D.ids] using h)]
 | .tuple l, h => by simp only [D.ren, renL_noids f l (by simpa only [D.ids] using h)]
 | .fn g l, h => by simp only [D.ren, renL_noids f l (by simpa only [D.ids] using h)]
 | .iface t d, h => by simp only [D.ren, ren_noids f d (by simpa only [D.ids] using h)]
 | .when c d, h => by simp only [D.ren, ren_noids f d (by simpa only [D.ids] using h)]
 | .ref _ _ _ _ _, h | .ptr _ _, h | .eptr _ _ _ _, h | .mref _, h => by simp [D.ids] at h
 | .bool _, _ | .int _ _, _ | .str _, _ | .imm _ _ _, _ | .iptr _ _, _ | .nilptr, _ | .nilfn, _ | .nilIface, _ | .nilmap, _ | .undef, _ => by simp only [D.ren]
theorem renL_noids (f : Nat → Nat) : ∀ l : List D, D.idsL l = [] → D.renL f l = l
 | [], _ => by simp only [D.renL]
 | d :: ds, h => by
  simp only [D.idsL, List.append_eq_nil_iff] at h
  simp only [D.renL, ren_noids f d h.1, renL_noids f ds h.2]
end
theorem idsL_lent {l : List D} (h : ∀ hp, lends hp l = (l, true)) : D.idsL l = [] := by
 have := (lends_plain (hp := fun _ => none) l (by rw [h])).2.1
 rwa [h] at this
theorem renL_lent {l : List D} (h : ∀ hp, lends hp l = (l, true)) (f : Nat → Nat) : D.renL f l = l := renL_noids f l (idsL_lent h)
theorem drop_map {α β : Type} (f : α → β) (l : List α) (i : Nat) : (l.map f).drop i = (l.drop i).map f := List.map_drop.symm
theorem take_map {α β : Type} (f : α → β) (l : List α) (i : Nat) : (l.map f).take i = (l.take i).map f := List.map_take.symm
theorem take_map_len {α β : Type} (f : α → β) (l : List α) : (l.map f).take l.length = l.map f := by rw [take_map, List.take_length]
theorem schedB_of {ops : Array Oper} {fps : Nat → FP} (h : ((List.range ops.size).all fun i => (List.range i).all fun j => anc ops ops.size i j || okFP (fps j) (fps i)) = true) : schedB ops fps = true := by
 unfold schedB
 rw [← h]
 congr 1
 funext i
 congr 1
 funext j
 rw [Bool.or_comm]
end Go.Tm
end
section
namespace Go.Tm
structure Seat (P : Program) (tab : Nat → TI) : Prop where
 tm : TabOk P tab
 mixed : P.follows .mixedOrders = true
section
variable {P : Program} {tab : Nat → TI} {lim n : Nat}
theorem Ok.pl {id : Nat} {ops : Array Oper} {st st' : St} {vc : Bool} {acc : List FP} {Q : Exit → St → Prop} (S : Seat P tab) (V : List Nat) (hQ : Q .normal st') (hok : regOk n ops false = true := by decide +kernel)
  (h : Comes (runE tab true false ops.toList ops.toList ⟨keep V st.vars, st.heap, st.nx⟩ true []) st' vc acc [] := by intro q hq; simp only [go_sem, Nat.reduceSub, Int.reduceEq, Nat.reduceLT, Nat.reduceDiv, Nat.reduceAdd, Nat.reduceBEq, Nat.reduceLeDiff, reduceCtorEq, Nat.reduceEqDiff, Nat.reduceMod, Nat.reduceMul, appendD]; exact hq)
  (hv : vc = true := by first | rfl | (simp only [go_sem, Nat.reduceLeDiff]; done) | (simp only [go_sem, Nat.reduceLeDiff]; rfl) | (simp; done) | (simp [oneD] <;> omega) | (simp_all; done) | (simp_all [oneD] <;> omega)) (hlim : st'.nx ≤ lim := by first | exact Nat.le_refl _ | exact Nat.le_of_ble_eq_true rfl | (dsimp only; omega) | (simp <;> omega)) : Ok P lim n (.region id ops false) st Q :=
 .plain S.tm S.mixed V hok h hv hlim hQ
theorem Ok.plx {X : Prop} {id : Nat} {ops : Array Oper} {st st' : St} {vc : Bool} {acc : List FP} {Q : Exit → St → Prop} (S : Seat P tab) (x : X) (V : List Nat) (hQ : Q .normal st') (hok : regOk n ops false = true := by decide +kernel)
  (h : X → Comes (runE tab true false ops.toList ops.toList ⟨keep V st.vars, st.heap, st.nx⟩ true []) st' vc acc [] := by intro x q hq; simp only [go_sem, Nat.reduceSub, Int.reduceEq, Nat.reduceLT, Nat.reduceDiv, Nat.reduceAdd, Nat.reduceBEq, Nat.reduceLeDiff, reduceCtorEq, Nat.reduceEqDiff, Nat.reduceMod, Nat.reduceMul, appendD, x]; exact hq)
  (hv : vc = true := by first | rfl | (simp only [go_sem, Nat.reduceLeDiff]; done) | (simp only [go_sem, Nat.reduceLeDiff]; rfl) | (simp; done) | (simp [oneD] <;> omega) | (simp_all; done) | (simp_all [oneD] <;> omega)) (hlim : st'.nx ≤ lim := by first | exact Nat.le_refl _ | exact Nat.le_of_ble_eq_true rfl | (dsimp only; omega) | (simp <;> omega)) : Ok P lim n (.region id ops false) st Q :=
 .plain S.tm S.mixed V hok (h x) hv hlim hQ
theorem Ok.dr {id : Nat} {ops : Array Oper} {st st' : St} {vc : Bool} {acc : List FP} {Q : Exit → St → Prop} (S : Seat P tab) (V : List Nat) (hQ : Q .normal st') (hok : regOk n ops true = true := by decide +kernel)
  (h : Comes (runE tab true true ops.toList ops.toList ⟨keep V st.vars, st.heap, st.nx⟩ true []) st' vc acc [] := by intro q hq; simp only [go_sem, Nat.reduceSub, Int.reduceEq, Nat.reduceLT, Nat.reduceDiv, Nat.reduceAdd, Nat.reduceBEq, Nat.reduceLeDiff, reduceCtorEq, Nat.reduceEqDiff, Nat.reduceMod, Nat.reduceMul, appendD]; exact hq)
  (hs : schedB ops (fun i => (acc[i]?).getD fpDflt) = true := by exact schedB_of (by kernel_rfl))
  (hv : vc = true := by first | rfl | (simp only [go_sem, Nat.reduceLeDiff]; done) | (simp only [go_sem, Nat.reduceLeDiff]; rfl) | (simp; done) | (simp [oneD] <;> omega) | (simp_all; done) | (simp_all [oneD] <;> omega)) (hlim : st'.nx ≤ lim := by first | exact Nat.le_refl _ | exact Nat.le_of_ble_eq_true rfl | (dsimp only; omega) | (simp <;> omega)) : Ok P lim n (.region id ops true) st Q :=
 .drawn S.tm S.mixed V hok h hs hv hlim hQ
theorem Ok.drx {X : Prop} {id : Nat} {ops : Array Oper} {st st' : St} {vc : Bool} {acc : List FP} {Q : Exit → St → Prop} (S : Seat P tab) (x : X) (V : List Nat) (hQ : Q .normal st') (hok : regOk n ops true = true := by decide +kernel)
  (h : X → Comes (runE tab true true ops.toList ops.toList ⟨keep V st.vars, st.heap, st.nx⟩ true []) st' vc acc [] := by intro x q hq; simp only [go_sem, Nat.reduceSub, Int.reduceEq, Nat.reduceLT, Nat.reduceDiv, Nat.reduceAdd, Nat.reduceBEq, Nat.reduceLeDiff, reduceCtorEq, Nat.reduceEqDiff, Nat.reduceMod, Nat.reduceMul, appendD, x]; exact hq)
  (hs : schedB ops (fun i => (acc[i]?).getD fpDflt) = true := by exact schedB_of (by kernel_rfl))
  (hv : vc = true := by first | rfl | (simp only [go_sem, Nat.reduceLeDiff]; done) | (simp only [go_sem, Nat.reduceLeDiff]; rfl) | (simp; done) | (simp [oneD] <;> omega) | (simp_all; done) | (simp_all [oneD] <;> omega)) (hlim : st'.nx ≤ lim := by first | exact Nat.le_refl _ | exact Nat.le_of_ble_eq_true rfl | (dsimp only; omega) | (simp <;> omega)) : Ok P lim n (.region id ops true) st Q :=
 .drawn S.tm S.mixed V hok (h x) hs hv hlim hQ
theorem Ok.rg {id : Nat} {ops : Array Oper} {draw : Bool} {st : St} {Q : Exit → St → Prop} (S : Seat P tab) (V : List Nat) (h : RegA P tab true lim ops draw ⟨keep V st.vars, st.heap, st.nx⟩ (Q .normal)) (hok : regOk n ops draw = true := by decide +kernel) : Ok P lim n (.region id ops draw) st Q := Ok.region S.tm S.mixed V hok h
theorem WRun.rn {ops : Array Oper} (k : Nat) {l l' : List Oper} {st st' : St} {acc acc' : List FP} {Q : St → List FP → Prop} {vc : Bool}
  (hQ : WRun P tab true lim ops l' st' acc' Q) (hdr : false = true ∨ ∀ st a b, Q st a → Q st b := by exact .inr fun _ _ _ h => ⟨nofun, h.2⟩)
  (h : Comes (runK tab true false ops.toList k l st true acc) st' vc acc' l' := by intro q hq; simp only [go_sem, Nat.reduceSub, Int.reduceEq, Nat.reduceLT, Nat.reduceDiv, Nat.reduceAdd, Nat.reduceBEq, Nat.reduceLeDiff, reduceCtorEq, Nat.reduceEqDiff, Nat.reduceMod, Nat.reduceMul, appendD]; exact hq) (hv : vc = true := by first | rfl | (simp only [go_sem, Nat.reduceLeDiff]; done) | (simp only [go_sem, Nat.reduceLeDiff]; rfl) | (simp; done) | (simp [oneD] <;> omega) | (simp_all; done) | (simp_all [oneD] <;> omega)) (hlim : st'.nx ≤ lim := by first | exact Nat.le_refl _ | exact Nat.le_of_ble_eq_true rfl | (dsimp only; omega) | (simp <;> omega)) : WRun P tab true lim ops l st acc Q :=
 WRun.EN k h.eq hdr hv hlim hQ
theorem WRun.rnx {X : Prop} {ops : Array Oper} (k : Nat) {l l' : List Oper} {st st' : St} {acc acc' : List FP} {Q : St → List FP → Prop} {vc : Bool} (x : X)
  (hQ : WRun P tab true lim ops l' st' acc' Q) (hdr : false = true ∨ ∀ st a b, Q st a → Q st b := by exact .inr fun _ _ _ h => ⟨nofun, h.2⟩)
  (h : X → Comes (runK tab true false ops.toList k l st true acc) st' vc acc' l' := by intro x q hq; simp only [go_sem, Nat.reduceSub, Int.reduceEq, Nat.reduceLT, Nat.reduceDiv, Nat.reduceAdd, Nat.reduceBEq, Nat.reduceLeDiff, reduceCtorEq, Nat.reduceEqDiff, Nat.reduceMod, Nat.reduceMul, appendD, x]; exact hq) (hv : vc = true := by first | rfl | (simp only [go_sem, Nat.reduceLeDiff]; done) | (simp only [go_sem, Nat.reduceLeDiff]; rfl) | (simp; done) | (simp [oneD] <;> omega) | (simp_all; done) | (simp_all [oneD] <;> omega)) (hlim : st'.nx ≤ lim := by first | exact Nat.le_refl _ | exact Nat.le_of_ble_eq_true rfl | (dsimp only; omega) | (simp <;> omega)) : WRun P tab true lim ops l st acc Q :=
 WRun.EN k (h x).eq hdr hv hlim hQ
theorem WRun.rd {ops : Array Oper} (k : Nat) {l l' : List Oper} {st st' : St} {acc acc' : List FP} {Q : St → List FP → Prop} {vc : Bool}
  (hQ : WRun P tab true lim ops l' st' acc' Q)
  (h : Comes (runK tab true true ops.toList k l st true acc) st' vc acc' l' := by intro q hq; simp only [go_sem, Nat.reduceSub, Int.reduceEq, Nat.reduceLT, Nat.reduceDiv, Nat.reduceAdd, Nat.reduceBEq, Nat.reduceLeDiff, reduceCtorEq, Nat.reduceEqDiff, Nat.reduceMod, Nat.reduceMul, appendD]; exact hq) (hv : vc = true := by first | rfl | (simp only [go_sem, Nat.reduceLeDiff]; done) | (simp only [go_sem, Nat.reduceLeDiff]; rfl) | (simp; done) | (simp [oneD] <;> omega) | (simp_all; done) | (simp_all [oneD] <;> omega)) (hlim : st'.nx ≤ lim := by first | exact Nat.le_refl _ | exact Nat.le_of_ble_eq_true rfl | (dsimp only; omega) | (simp <;> omega)) : WRun P tab true lim ops l st acc Q :=
 WRun.EN k h.eq (.inl rfl) hv hlim hQ
theorem WRun.rdx {X : Prop} {ops : Array Oper} (k : Nat) {l l' : List Oper} {st st' : St} {acc acc' : List FP} {Q : St → List FP → Prop} {vc : Bool} (x : X)
  (hQ : WRun P tab true lim ops l' st' acc' Q)
  (h : X → Comes (runK tab true true ops.toList k l st true acc) st' vc acc' l' := by intro x q hq; simp only [go_sem, Nat.reduceSub, Int.reduceEq, Nat.reduceLT, Nat.reduceDiv, Nat.reduceAdd, Nat.reduceBEq, Nat.reduceLeDiff, reduceCtorEq, Nat.reduceEqDiff, Nat.reduceMod, Nat.reduceMul, appendD, x]; exact hq) (hv : vc = true := by first | rfl | (simp only [go_sem, Nat.reduceLeDiff]; done) | (simp only [go_sem, Nat.reduceLeDiff]; rfl) | (simp; done) | (simp [oneD] <;> omega) | (simp_all; done) | (simp_all [oneD] <;> omega)) (hlim : st'.nx ≤ lim := by first | exact Nat.le_refl _ | exact Nat.le_of_ble_eq_true rfl | (dsimp only; omega) | (simp <;> omega)) : WRun P tab true lim ops l st acc Q :=
 WRun.EN k (h x).eq (.inl rfl) hv hlim hQ
end
theorem ite_lc {α : Type} {b c : Prop} [Decidable c] {x y r : α} (h : (if c then x else y) = r) (hb : b) (hc : b → c := by intro hb; first | exact hb | (simp at hb ⊢; done) | (simp at hb ⊢; exact hb) | (simp at hb ⊢; omega) | (simp at hb ⊢; grind) | grind) : x = r := ite_l h (hc hb)
theorem ite_rc {α : Type} {b c : Prop} [Decidable c] {x y r : α} (h : (if c then x else y) = r) (hb : b) (hc : b → ¬ c := by intro hb; first | exact hb | (simp at hb ⊢; done) | (simp at hb ⊢; exact hb) | (simp at hb ⊢; omega) | (simp at hb ⊢; grind) | grind) : y = r := ite_r h (hc hb)
theorem gd {b p : Prop} (hg : b) (h : b → p := by intro hg; first | (simp only [opds, opd, ev, ofVal, getR, getL, Nat.beq, cond_true, cond_false, Bool.not_true, Bool.false_or, Bool.and_true, Bool.true_and, Prod.mk.injEq, true_and]; done) | (simp only [opds, opd, ev, ofVal, getR, getL, Nat.beq, cond_true, cond_false, Bool.not_true, Bool.false_or, Bool.and_true, Bool.true_and, Prod.mk.injEq, true_and]; first | exact hg | (simp at hg ⊢; done) | (simp at hg ⊢; exact hg) | (simp at hg ⊢; grind)) | rfl) : p := h hg
theorem rsi0 {tab : Nat → TI} {st : St} {l : List ResultVar} {r : D} (h : ResIs tab st l r := by simp only [ResIs, resL, resD, resT, go_sem, Nat.reduceSub, Int.reduceEq, Nat.reduceLT, Nat.reduceDiv, Nat.reduceAdd, Nat.reduceBEq, Nat.reduceLeDiff, reduceCtorEq, Nat.reduceEqDiff, Nat.reduceMod, Nat.reduceMul, appendD]) : ResIs tab st l r := h
theorem rsi {tab : Nat → TI} {st : St} {l : List ResultVar} {r : D} (h : ResIs tab st l r := by simp only [ResIs, resL, resD, resT, go_sem, Nat.reduceSub, Int.reduceEq, Nat.reduceLT, Nat.reduceDiv, Nat.reduceAdd, Nat.reduceBEq, Nat.reduceLeDiff, reduceCtorEq, Nat.reduceEqDiff, Nat.reduceMod, Nat.reduceMul, appendD]) : ∃ ds, resL tab st l = some (ds, true) ∧ resT ds = r := h.to
theorem Goes.m {lim n0 : Nat} {st s : St} (V H : List Nat) (ps : List (Nat × Nat)) (h1 : (⟨mvV (mvF ps) (pickL V st.vars), mvH (mvF ps) (pickL H st.heap), s.nx⟩ : St) = s := by first | with_reducible rfl | (simp only [go_sem, Nat.reduceBEq, Nat.reduceAdd]; done) | (simp only [go_sem, Nat.reduceBEq, Nat.reduceAdd]; with_reducible rfl) | rfl | (simp only [go_sem, Nat.reduceBEq, Nat.reduceAdd]; rfl))
  (h2 : n0 ≤ s.nx := by exact Nat.le_of_ble_eq_true rfl) (h3 : s.nx ≤ lim := by exact Nat.le_of_ble_eq_true rfl) (h4 : mvOk ps n0 s.nx (idsV (pickL V st.vars) ++ idsH (pickL H st.heap)) = true := by kernel_rfl) : Goes lim n0 st s := .mv V H ps h1 h2 h3 h4
theorem Goes.mx {X : Prop} {lim n0 : Nat} {st s : St} (x : X) (V H : List Nat) (ps : List (Nat × Nat)) (h1 : X → (⟨mvV (mvF ps) (pickL V st.vars), mvH (mvF ps) (pickL H st.heap), s.nx⟩ : St) = s := by intro x; first | with_reducible rfl | (simp only [x, go_sem, Nat.reduceBEq, Nat.reduceAdd, Bool.false_and, Bool.true_or, Bool.and_false]; done) | (simp only [x, go_sem, Nat.reduceBEq, Nat.reduceAdd, Bool.false_and, Bool.true_or, Bool.and_false]; with_reducible rfl) | rfl | (simp only [x, go_sem, Nat.reduceBEq, Nat.reduceAdd, Bool.false_and, Bool.true_or, Bool.and_false]; rfl))
  (h2 : n0 ≤ s.nx := by exact Nat.le_of_ble_eq_true rfl) (h3 : s.nx ≤ lim := by exact Nat.le_of_ble_eq_true rfl) (h4 : mvOk ps n0 s.nx (idsV (pickL V st.vars) ++ idsH (pickL H st.heap)) = true := by kernel_rfl) : Goes lim n0 st s := .mv V H ps (h1 x) h2 h3 h4
end Go.Tm
end
section
namespace Go.Tm
structure PlN {α : Type} (f g : α → D) : Prop where
 un : ∀ x, unf (f x) = g x
 ids : ∀ x, (f x).ids = []
 lo : ∀ x, okM low3 (f x) = true
 nw : ∀ x, okM new1 (f x) = true
section
variable {α : Type} {f g : α → D} (hf : PlN f g)
include hf
theorem PlN.unfL (l : List α) : Tm.unfL (l.map f) = l.map g := by
 induction l with
 | nil => rfl
 | cons x l ih => simp only [List.map_cons, Tm.unfL, hf.un, ih]
theorem PlN.idsL (l : List α) : D.idsL (l.map f) = [] := by
 induction l with
 | nil => rfl
 | cons x l ih => simp only [List.map_cons, D.idsL, hf.ids, ih, List.nil_append]
end
theorem mkML_map {α : Type} {f g : α → D} (m : Nat) (h : ∀ x, mkM m (g x) = f x) (l : List α) : mkML m (l.map g) = l.map f := by
 induction l with
 | nil => rfl
 | cons x l ih => simp only [List.map_cons, mkML, h, ih]
def WkN (d d' : D) : Prop := ∀ (fr : Nat) (w : World) (g : Gh) (hp : Nat → Option Blk) (nu : Nat → Bool), Mem fr w g hp nu → ∀ (q : Bool) (v : Value), rep { cx w g hp with rf := q } d v → rep { cx w g hp with rf := q } d' v
theorem WkN.refl (d : D) : WkN d d := fun _ _ _ _ _ _ _ _ h => h
theorem WkN.of {d d' : D} (h : Wk d d') : WkN d d' := fun _ _ _ _ _ _ _ _ hv => h _ _ hv
def WkNs : List D → List D → Prop
 | [], [] => True
 | d :: l, d' :: l' => WkN d d' ∧ WkNs l l'
 | _, _ => False
theorem WkNs.refl : ∀ l : List D, WkNs l l
 | [] => trivial
 | d :: l => ⟨.refl d, WkNs.refl l⟩
theorem WkNs.cons {d d' : D} {l l' : List D} (h : WkN d d') (hl : WkNs l l') : WkNs (d :: l) (d' :: l') := ⟨h, hl⟩
theorem WkNs.nil : WkNs [] [] := trivial
theorem WkNs.append : ∀ {a a' b b' : List D}, WkNs a a' → WkNs b b' → WkNs (a ++ b) (a' ++ b')
 | [], [], _, _, _, hb => hb
 | _ :: _, _ :: _, _, _, ha, hb => ⟨ha.1, WkNs.append ha.2 hb⟩
 | [], _ :: _, _, _, ha, _ => ha.elim
 | _ :: _, [], _, _, ha, _ => ha.elim
theorem WkNs.map {α : Type} {f g : α → D} (h : ∀ x, WkN (f x) (g x)) : ∀ l : List α, WkNs (l.map f) (l.map g)
 | [] => trivial
 | x :: l => ⟨h x, WkNs.map h l⟩
theorem WkNs.len : ∀ {a b : List D}, WkNs a b → a.length = b.length
 | [], [], _ => rfl
 | _ :: _, _ :: _, h => by simp only [List.length_cons, WkNs.len h.2]
 | [], _ :: _, h => h.elim
 | _ :: _, [], h => h.elim
theorem WkNs.reps {fr : Nat} {w : World} {g : Gh} {hp : Nat → Option Blk} {nu : Nat → Bool} (hM : Mem fr w g hp nu) (q : Bool) : ∀ {l l' : List D}, WkNs l l' → ∀ vs, Tm.reps { cx w g hp with rf := q } l vs → Tm.reps { cx w g hp with rf := q } l' vs
 | [], [], _, vs, h => h
 | d :: l, d' :: l', hw, vs, h => by
  simp only [Tm.reps] at h ⊢
  obtain ⟨v, vs', e, h1, h2⟩ := h
  exact ⟨v, vs', e, hw.1 fr w g hp nu hM q v h1, WkNs.reps hM q hw.2 vs' h2⟩
 | [], _ :: _, hw, _, _ => hw.elim
 | _ :: _, [], hw, _, _ => hw.elim
theorem WkNs.elems {fr : Nat} {w : World} {g : Gh} {hp : Nat → Option Blk} {nu : Nat → Bool} (hM : Mem fr w g hp nu) (q : Bool) : ∀ {l l' : List D}, WkNs l l' → ∀ b o s, Tm.elems { cx w g hp with rf := q } l b o s → Tm.elems { cx w g hp with rf := q } l' b o s
 | [], [], _, _, _, _, h => h
 | d :: l, d' :: l', hw, b, o, s, h => by
  simp only [Tm.elems] at h ⊢
  obtain ⟨⟨v, h1, h2⟩, h3⟩ := h
  exact ⟨⟨v, hw.1 fr w g hp nu hM q v h1, h2⟩, WkNs.elems hM q hw.2 b (o + s) s h3⟩
 | [], _ :: _, hw, _, _, _, _ => hw.elim
 | _ :: _, [], hw, _, _, _, _ => hw.elim
theorem WkN.agg {l l' : List D} (h : WkNs l l') : WkN (.agg l) (.agg l') := by
 intro fr w g hp nu hM q v hv
 simp only [rep] at hv ⊢
 obtain ⟨cs, e, hc⟩ := hv
 exact ⟨cs, e, WkNs.reps hM q h _ hc⟩
theorem Goes.arr {lim n0 : Nat} {st s : St} (id : Nat) (items items' : List D) {e s' : Nat} {p : Bool} (hd : getL st.heap id = some (.arr e s' p items)) (hw : WkNs items items') (h : Goes lim n0 ⟨st.vars, put st.heap id (.arr e s' p items'), st.nx⟩ s) : Goes lim n0 st s := by
 intro E n F a w g hE hF hR
 obtain ⟨h1, h2, h3⟩ := hF
 have hid : F.hp id = some (.arr e s' p items) := by rw [h2]; exact hd
 have hp : ∀ i, getL (put st.heap id (.arr e s' p items')) i = if id = i then some (.arr e s' p items') else F.hp i := by
  intro i; rw [getL_put, h2]
 have hne : ∀ i, getL (put st.heap id (.arr e s' p items')) i ≠ none ↔ F.hp i ≠ none := by
  intro i
  rw [hp]
  by_cases e : id = i
  ·subst e; simp [hid]
  ·rw [if_neg e]
 have hown : ownB g (getL (put st.heap id (.arr e s' p items'))) = ownB g F.hp := by
  funext b
  apply propext
  constructor
  ·rintro ⟨i, o, k1, k2⟩; exact ⟨i, o, (hne i).1 k1, k2⟩
  ·rintro ⟨i, o, k1, k2⟩; exact ⟨i, o, (hne i).2 k1, k2⟩
 have hcx : cx w g (getL (put st.heap id (.arr e s' p items'))) = cx w g F.hp := by simp only [cx, hown]
 refine h E n ⟨F.rd, getL (put st.heap id (.arr e s' p items')), F.nu⟩ a w g hE ⟨h1, rfl, h3⟩ ⟨hR.sz, hR.df, fun t => by rw [hcx]; exact hR.rd t, ⟨fun i blk hb => ?_, fun i i' b o o' k1 k2 => hR.mem.inj i i' b o o' ((hne i).1 k1) ((hne i').1 k2), fun i hi => ?_, ?_, hR.mem.fl⟩, fun i b o k1 => hR.base i b o ((hne i).1 k1), hR.keep, hR.gz, hR.gs, hR.nu⟩
 ·have hb : getL (put st.heap id (.arr e s' p items')) i = some blk := hb
  rw [hcx]
  rw [hp] at hb
  by_cases e : id = i
  ·subst e
   rw [if_pos rfl] at hb
   cases hb
   rcases hR.mem.hd id _ hid with ⟨e1, e2⟩ | ⟨b, cs, e1, e2, e3, e4⟩
   ·subst e1
    have : items' = [] := List.eq_nil_of_length_eq_zero hw.len.symm
    exact .inl ⟨this, e2⟩
   ·exact .inr ⟨b, cs, e1, e2, by rw [← hw.len]; exact e3, WkNs.elems hR.mem _ hw _ _ _ e4⟩
  ·rw [if_neg e] at hb
   exact hR.mem.hd i blk hb
 ·obtain ⟨k1, k2⟩ := hR.mem.nw i hi
  refine ⟨k1, ?_⟩
  rcases Classical.em (getL (put st.heap id (.arr e s' p items')) i = none) with e | e
  ·exact e
  ·exact absurd k2 ((hne i).1 e)
 ·rw [hown]; exact hR.mem.zs
theorem setN_map {α : Type} (f : α → D) (l : List α) (i : Nat) (x : α) : setN (l.map f) i (f x) = (l.set i x).map f := by
 unfold setN
 exact List.map_set.symm
end Go.Tm
namespace Go.Tm
theorem pl0_int (k : IntKind) : Pl0 (D.int k) := ⟨pl_int k, fun _ _ => rfl⟩
theorem mkZ_one (d : D) : mkZ 1 d = mkM 1 d := rfl
theorem mkZL_one (l : List D) : mkZL 1 l = mkML 1 l := rfl
theorem mk1_int (k : IntKind) (l : List Int) : mkML 1 (l.map (D.int k)) = l.map (D.int k) := mkML_map 1 (fun _ => rfl) l
theorem mk1_str (l : List (List UInt8)) : mkML 1 (l.map D.str) = l.map D.str := mkML_map 1 (fun _ => rfl) l
theorem mk1_bool (l : List Bool) : mkML 1 (l.map D.bool) = l.map D.bool := mkML_map 1 (fun _ => rfl) l
theorem Goes.refl {lim n0 : Nat} {st : St} : Goes lim n0 st st := fun _ _ F _ _ g _ hF hR => ⟨F, g, hF, hR⟩
theorem WkNs.set {α : Type} {f : α → D} (l : List α) (i : Nat) (x : α) {d : D} (h : WkN d (f x)) : WkNs (setN (l.map f) i d) ((l.set i x).map f) := by
 unfold setN
 induction l generalizing i with
 | nil => exact trivial
 | cons y l ih =>
  cases i with
  | zero => exact ⟨h, .refl _⟩
  | succ i => exact ⟨.refl _, ih i⟩
theorem Ok.arr {P : Program} {lim n : Nat} {c : Code} {st : St} {Q : Exit → St → Prop} (id : Nat) (items items' : List D) {e s' : Nat} {p : Bool} (hd : getL st.heap id = some (.arr e s' p items)) (hw : WkNs items items') (k : Ok P lim n c ⟨st.vars, put st.heap id (.arr e s' p items'), st.nx⟩ Q) : Ok P lim n c st Q :=
 .goes (.arr id items items' hd hw .refl) k
end Go.Tm
namespace Go.Tm
def toBytes (l : List Int) : List UInt8 := l.map fun n => UInt8.ofNat n.toNat
def ofBytes (l : List UInt8) : List Int := l.map fun b => (b.toNat : Int)
theorem bytesD_map (l : List Int) : bytesD (l.map (D.int .u8)) = some (toBytes l) := by
 induction l with
 | nil => rfl
 | cons x l ih => simp only [List.map_cons, bytesD, ih, toBytes]
theorem map_ub (l : List UInt8) : l.map ub = (ofBytes l).map (D.int .u8) := by
 simp only [ofBytes, List.map_map]; rfl
end Go.Tm
namespace Go.Tm
theorem cels_wk {C : Cx} : ∀ {l l' : List D} (b o : Nat), (∀ C vs, reps C l vs → reps C l' vs) → (∀ C vs, reps C l vs → reps C l' vs) → cels C l b o → cels C l' b o := by
 intro l l' b o h _ hc
 -- cells as values
 have key : ∀ (l : List D) (o : Nat), cels C l b o → ∃ vs, reps C l vs ∧ vs.length = l.length ∧ ∀ j v, vs[j]? = some v → C.w.cell? ⟨b, o + j, none⟩ = some v := by
  intro l
  induction l with
  | nil => intro o _; exact ⟨[], by simp only [reps], rfl, by simp⟩
  | cons d l ih =>
   intro o hc
   simp only [cels] at hc
   obtain ⟨⟨v, h1, h2⟩, h3⟩ := hc
   obtain ⟨vs, g1, g2, g3⟩ := ih (o + 1) h3
   refine ⟨v :: vs, by simp only [reps]; exact ⟨v, vs, rfl, h1, g1⟩, by simp [g2], ?_⟩
   intro j x hx
   cases j with
   | zero => simp at hx; subst hx; simpa using h2
   | succ j => simp at hx; have := g3 j x hx; rwa [show o + (j + 1) = o + 1 + j by omega]
 have back : ∀ (l : List D) (o : Nat) (vs : List Value), reps C l vs → (∀ j v, vs[j]? = some v → C.w.cell? ⟨b, o + j, none⟩ = some v) → cels C l b o := by
  intro l
  induction l with
  | nil => intro o vs _ _; simp only [cels]
  | cons d l ih =>
   intro o vs hr hv
   simp only [reps] at hr
   obtain ⟨v, vs', rfl, h1, h2⟩ := hr
   simp only [cels]
   refine ⟨⟨v, h1, by simpa using hv 0 v rfl⟩, ih (o + 1) vs' h2 fun j x hx => ?_⟩
   have := hv (j + 1) x (by simpa using hx)
   rwa [show o + 1 + j = o + (j + 1) by omega]
 obtain ⟨vs, g1, _, g3⟩ := key l o hc
 exact back l' o vs (h C vs g1) g3
theorem Wk.iptr {m : Nat} {l l' : List D} (h : WkL l l') (hl : l ≠ [] := by exact List.cons_ne_nil _ _) : Wk (.iptr m l) (.iptr m l') := by
 intro C v hv
 simp only [rep] at hv ⊢
 obtain ⟨a0, rfl, hs, hfl, hr⟩ := hv
 refine ⟨a0, rfl, hs, hfl, ?_⟩
 rcases hr with hr | hr
 ·exact absurd hr hl
 right
 intro Z hZ
 obtain ⟨g1, g2, g3, g4⟩ := hr Z hZ
 exact ⟨g1, g2, g3, cels_wk _ _ h h g4⟩
end Go.Tm
namespace Go.Tm
def WkGs : List D → List D → Prop
 | [], [] => True
 | d :: l, d' :: l' => WkG d d' ∧ WkGs l l'
 | _, _ => False
theorem WkG.refl (d : D) : WkG d d := fun _ _ _ _ _ _ _ h => h
theorem WkGs.nil : WkGs [] [] := trivial
theorem WkGs.cons {d d' : D} {l l' : List D} (h : WkG d d') (hl : WkGs l l') : WkGs (d :: l) (d' :: l') := ⟨h, hl⟩
theorem WkGs.keep {d : D} {l l' : List D} (hl : WkGs l l') : WkGs (d :: l) (d :: l') := ⟨.refl d, hl⟩
theorem WkGs.refl : ∀ l : List D, WkGs l l
 | [] => trivial
 | d :: l => ⟨.refl d, WkGs.refl l⟩
theorem WkGs.reps {fr : Nat} {w : World} {g : Gh} {hp : Nat → Option Blk} {nu : Nat → Bool} (hM : Mem fr w g hp nu) : ∀ {l l' : List D}, WkGs l l' → ∀ vs, Tm.reps (cx w g hp) l vs → Tm.reps (cx w g hp) l' vs
 | [], [], _, vs, h => h
 | d :: l, d' :: l', hw, vs, h => by
  simp only [Tm.reps] at h ⊢
  obtain ⟨v, vs', e, h1, h2⟩ := h
  exact ⟨v, vs', e, hw.1 fr w g hp nu hM v h1, WkGs.reps hM hw.2 vs' h2⟩
 | [], _ :: _, hw, _, _ => hw.elim
 | _ :: _, [], hw, _, _ => hw.elim
theorem Goes.boxs {lim n0 : Nat} {st s : St} (id : Nat) (cells cells' : List D) (hd : getL st.heap id = some (.box cells)) (hw : WkGs cells cells') (h : Goes lim n0 ⟨st.vars, put st.heap id (.box cells'), st.nx⟩ s) : Goes lim n0 st s := by
 intro E n F a w g hE hF hR
 obtain ⟨h1, h2, h3⟩ := hF
 have hid : F.hp id = some (.box cells) := by rw [h2]; exact hd
 have hp : ∀ i, getL (put st.heap id (.box cells')) i = if id = i then some (.box cells') else F.hp i := by
  intro i; rw [getL_put, h2]
 have hne : ∀ i, getL (put st.heap id (.box cells')) i ≠ none ↔ F.hp i ≠ none := by
  intro i
  rw [hp]
  by_cases e : id = i
  ·subst e; simp [hid]
  ·rw [if_neg e]
 have hown : ownB g (getL (put st.heap id (.box cells'))) = ownB g F.hp := by
  funext b
  apply propext
  constructor
  ·rintro ⟨i, o, k1, k2⟩; exact ⟨i, o, (hne i).1 k1, k2⟩
  ·rintro ⟨i, o, k1, k2⟩; exact ⟨i, o, (hne i).2 k1, k2⟩
 have hcx : cx w g (getL (put st.heap id (.box cells'))) = cx w g F.hp := by simp only [cx, hown]
 refine h E n ⟨F.rd, getL (put st.heap id (.box cells')), F.nu⟩ a w g hE ⟨h1, rfl, h3⟩ ⟨hR.sz, hR.df, fun t => by rw [hcx]; exact hR.rd t, ⟨fun i blk hb => ?_, fun i i' b o o' k1 k2 => hR.mem.inj i i' b o o' ((hne i).1 k1) ((hne i').1 k2), fun i hi => ?_, ?_, hR.mem.fl⟩, fun i b o k1 => hR.base i b o ((hne i).1 k1), hR.keep, hR.gz, hR.gs, hR.nu⟩
 ·have hb : getL (put st.heap id (.box cells')) i = some blk := hb
  rw [hcx]
  rw [hp] at hb
  by_cases e : id = i
  ·subst e
   rw [if_pos rfl] at hb
   cases hb
   obtain ⟨b, cs, T, e1, e2, e3, e4⟩ := hR.mem.hd id _ hid
   exact ⟨b, cs, T, e1, e2, hw.reps hR.mem _ e3, e4⟩
  ·rw [if_neg e] at hb
   exact hR.mem.hd i blk hb
 ·obtain ⟨k1, k2⟩ := hR.mem.nw i hi
  refine ⟨k1, ?_⟩
  rcases Classical.em (getL (put st.heap id (.box cells')) i = none) with e | e
  ·exact e
  ·exact absurd k2 ((hne i).1 e)
 ·rw [hown]; exact hR.mem.zs
end Go.Tm
namespace Go.Tm
theorem WkG.of_new12 (s : Nat) (l : List D) {c : Nat} (hc : c / 8 = 1) : WkG (.imm s l c) (.imm s l 12) := by
 intro fr w g hp nu hM v h
 simp only [rep, hc] at h ⊢
 obtain ⟨a, cap, rfl, h1, h2, _, _, _, h6, hfl, h7⟩ := h
 exact ⟨a, cap, rfl, h1, h2, by simp, by simp, by simp, h6, fun _ => hfl (by omega), h7⟩
end Go.Tm
namespace Go.Tm
theorem callH_sw {P : Program} {K : FuncId} {args : List D} {H : List (Nat × Blk)} {r : D} {eff : List (Nat × Option Blk)} {nw : Nat × Nat} (a b : Nat) (h : CallH P K args H r eff nw) (ha : Nat.blt a nw.1 = true := by rfl) (hb : Nat.blt b nw.1 = true := by rfl) :
  CallH P K (D.renL (sw a b) args) (mvH (sw a b) H) (r.ren (sw a b)) (renE (sw a b) eff) nw := by
 refine callH_ren (π := sw a b) (sw_sw a b) nw (fun id h1 h2 => ?_) h
 have ha := Nat.le_of_ble_eq_true ha
 have hb := Nat.le_of_ble_eq_true hb
 have e : sw a b id = id := by
  unfold sw
  rw [beq_ne (by omega), beq_ne (by omega)]; rfl
 rw [e]; exact ⟨h1, h2⟩
theorem callH_bsw {P : Program} {K : FuncId} {args : List D} {H : List (Nat × Blk)} {r : D} {eff : List (Nat × Option Blk)} {a b : Nat} (n : Nat) (h : CallH P K args H r eff (a, b)) (hn : Nat.ble (n + (b - a)) a = true := by rfl) :
  CallH P K (D.renL (bsw n a (b - a)) args) (mvH (bsw n a (b - a)) H) (r.ren (bsw n a (b - a))) (renE (bsw n a (b - a)) eff) (n, n + (b - a)) := by
 have hn := Nat.le_of_ble_eq_true hn
 refine callH_ren (π := bsw n a (b - a)) (bsw_bsw hn) _ (fun id h1 h2 => ?_) h
 have h1 : a ≤ id := h1
 have h2 : id < b := h2
 have e1 : (Nat.ble n id && Nat.blt id (n + (b - a))) = false := by
  rw [← Bool.not_eq_true]; simp only [Bool.and_eq_true]
  rintro ⟨_, k⟩
  have := Nat.le_of_ble_eq_true k
  omega
 have e2 : (Nat.ble a id && Nat.blt id (a + (b - a))) = true := by
  simp only [Bool.and_eq_true]
  exact ⟨Nat.ble_eq_true_of_le h1, Nat.ble_eq_true_of_le (by omega)⟩
 simp only [bsw, e1, e2, cond_false, cond_true]
 omega
end Go.Tm
namespace Go.Tm
theorem natbeq (a b : Nat) : Nat.beq a b = (a == b) := by
 by_cases h : a = b
 ·subst h; simp
 ·rw [beq_ne h]; exact (beq_eq_false_iff_ne.2 h).symm
end Go.Tm
namespace Go.Tm
theorem callP_wf {P : Program} {K : FuncId} {args : List D} {r : D} (he : Enters P K) (h : wfL args → CallP P K args r) : CallP P K args r :=
 ⟨he, fun w vs hvs => (h (reps_wf _ _ hvs)).2 w vs hvs⟩
end Go.Tm
namespace Go.Tm
def mget {α β : Type} [DecidableEq α] (k : α) : List (α × β) → Option β
 | [] => none
 | x :: l => if k = x.1 then some x.2 else mget k l
def mapD {α β : Type} (f : α → D) (g : β → D) (l : List (α × β)) : List (D × D) := l.map fun x => (f x.1, g x.2)
theorem findD_int {β : Type} (q : IntKind) (g : β → D) (k : Int) (l : List (Int × β)) : findD (.int q k) (mapD (D.int q) g l) = some ((mget k l).map g) := by
 induction l with
 | nil => rfl
 | cons x l ih =>
  simp only [mapD, List.map_cons, findD, keyEq, decide_true, cond_true, mget] at ih ⊢
  by_cases h : k = x.1
  ·simp [h]
  ·have : (k == x.1) = false := beq_eq_false_iff_ne.2 h
   simp only [this, h, if_false]
   exact ih
theorem findD_str {β : Type} (g : β → D) (k : List UInt8) (l : List (List UInt8 × β)) : findD (.str k) (mapD D.str g l) = some ((mget k l).map g) := by
 induction l with
 | nil => rfl
 | cons x l ih =>
  simp only [mapD, List.map_cons, findD, keyEq, mget] at ih ⊢
  by_cases h : k = x.1
  ·simp [h]
  ·have : (k == x.1) = false := beq_eq_false_iff_ne.2 h
   simp only [this, h, if_false]
   exact ih
theorem getD_map {α : Type} (f : α → D) (z : α) (o : Option α) : (o.map f).getD (f z) = f (o.getD z) := by cases o <;> rfl
theorem getD_int (q : IntKind) (z : Int) (o : Option Int) : (o.map (D.int q)).getD (.int q z) = .int q (o.getD z) := getD_map _ z o
theorem getD_str (z : List UInt8) (o : Option (List UInt8)) : (o.map D.str).getD (.str z) = .str (o.getD z) := getD_map _ z o
theorem getD_bool (z : Bool) (o : Option Bool) : (o.map D.bool).getD (.bool z) = .bool (o.getD z) := getD_map _ z o
theorem WkNs.rep {α : Type} {f : α → D} (n : Nat) (x : α) {d : D} (h : WkN d (f x)) : WkNs (List.replicate n d) ((List.replicate n x).map f) := by
 induction n with
 | zero => exact trivial
 | succ n ih => exact ⟨h, ih⟩
end Go.Tm
namespace Go.Tm
theorem WkG.un (d : D) : WkG d .undef := fun _ _ _ _ _ _ _ _ => by simp only [rep]
end Go.Tm
end
section
namespace Go.Tm
def mx {α : Type} (f g : α → D) (k : Nat) (l : List α) : List D := (l.take k).map f ++ (l.drop k).map g
section
variable {α : Type} (f g : α → D)
theorem mx_len (k : Nat) (l : List α) : (mx f g k l).length = l.length := by
 simp only [mx, List.length_append, List.length_map, List.length_take, List.length_drop]; omega
theorem WkNs.of_eq {l l' : List D} (h : l = l') : WkNs l l' := h ▸ .refl l
end
theorem Goes.pre {lim n0 : Nat} {st s : St} (id k : Nat) (items : List D) {e s' : Nat} {p : Bool} (hd : getL st.heap id = some (.arr e s' p items)) (h : Goes lim n0 ⟨st.vars, put st.heap id (.arr e s' p (items.take k)), st.nx⟩ s) : Goes lim n0 st s := by
 intro E n F a w g hE hF hR
 obtain ⟨h1, h2, h3⟩ := hF
 let items' := items.take k
 have hid : F.hp id = some (.arr e s' p items) := by rw [h2]; exact hd
 have hp : ∀ i, getL (put st.heap id (.arr e s' p items')) i = if id = i then some (.arr e s' p items') else F.hp i := by
  intro i; rw [getL_put, h2]
 have hne : ∀ i, getL (put st.heap id (.arr e s' p items')) i ≠ none ↔ F.hp i ≠ none := by
  intro i
  rw [hp]
  by_cases e : id = i
  ·subst e; simp [hid]
  ·rw [if_neg e]
 have hown : ownB g (getL (put st.heap id (.arr e s' p items'))) = ownB g F.hp := by
  funext b
  apply propext
  constructor
  ·rintro ⟨i, o, k1, k2⟩; exact ⟨i, o, (hne i).1 k1, k2⟩
  ·rintro ⟨i, o, k1, k2⟩; exact ⟨i, o, (hne i).2 k1, k2⟩
 have hcx : cx w g (getL (put st.heap id (.arr e s' p items'))) = cx w g F.hp := by simp only [cx, hown]
 refine h E n ⟨F.rd, getL (put st.heap id (.arr e s' p items')), F.nu⟩ a w g hE ⟨h1, rfl, h3⟩ ⟨hR.sz, hR.df, fun t => by rw [hcx]; exact hR.rd t, ⟨fun i blk hb => ?_, fun i i' b o o' k1 k2 => hR.mem.inj i i' b o o' ((hne i).1 k1) ((hne i').1 k2), fun i hi => ?_, ?_, hR.mem.fl⟩, fun i b o k1 => hR.base i b o ((hne i).1 k1), hR.keep, hR.gz, hR.gs, hR.nu⟩
 ·have hb : getL (put st.heap id (.arr e s' p items')) i = some blk := hb
  rw [hcx]
  rw [hp] at hb
  by_cases e : id = i
  ·subst e
   rw [if_pos rfl] at hb
   cases hb
   rcases hR.mem.hd id _ hid with ⟨e1, e2⟩ | ⟨b, cs, e1, e2, e3, e4⟩
   ·exact .inl ⟨by simp [items', e1], e2⟩
   ·refine .inr ⟨b, cs, e1, e2, Nat.le_trans (Nat.mul_le_mul_right _ (by simp [items']; omega)) e3, elems_take _ _ _ _ _ e4⟩
  ·rw [if_neg e] at hb
   exact hR.mem.hd i blk hb
 ·obtain ⟨k1, k2⟩ := hR.mem.nw i hi
  refine ⟨k1, ?_⟩
  rcases Classical.em (getL (put st.heap id (.arr e s' p items')) i = none) with e | e
  ·exact e
  ·exact absurd k2 ((hne i).1 e)
 ·rw [hown]; exact hR.mem.zs
def Blk.renM (f : Nat → Nat) : Blk → Blk
 | .map es => .map es
 | b => b.ren f
def mvHM (f : Nat → Nat) : List (Nat × Blk) → List (Nat × Blk)
 | [] => []
 | (i, b) :: r => (f i, b.renM f) :: mvHM f r
def Blk.idsM : Blk → List Nat
 | .map _ => []
 | b => b.ids
def idsHM : List (Nat × Blk) → List Nat
 | [] => []
 | (i, b) :: r => i :: (b.idsM ++ idsHM r)
def mapsOk : List (Nat × Blk) → Prop
 | [] => True
 | (_, .map es) :: r => idsEs es = [] ∧ mapsOk r
 | _ :: r => mapsOk r
theorem renEs_noids (f : Nat → Nat) : ∀ l : List (D × D), idsEs l = [] → renEs f l = l
 | [], _ => rfl
 | x :: l, h => by
  simp only [idsEs, List.append_eq_nil_iff] at h
  simp only [renEs, ren_noids f _ h.1.1, ren_noids f _ h.1.2, renEs_noids f l h.2]
theorem mvHM_eq (f : Nat → Nat) : ∀ l : List (Nat × Blk), mapsOk l → mvHM f l = mvH f l ∧ idsHM l = idsH l
 | [], _ => ⟨rfl, rfl⟩
 | (i, .map es) :: r, h => by
  obtain ⟨h1, h2⟩ := mvHM_eq f r h.2
  have := renEs_noids f es h.1
  simp only [mvHM, mvH, Blk.renM, Blk.ren, this, h1, idsHM, idsH, Blk.idsM, Blk.ids, h.1, h2]
  exact ⟨trivial, trivial⟩
 | (i, .box cs) :: r, h => by
  obtain ⟨h1, h2⟩ := mvHM_eq f r h
  simp only [mvHM, mvH, Blk.renM, h1, idsHM, idsH, Blk.idsM, h2]
  exact ⟨trivial, trivial⟩
 | (i, .arr e s p l) :: r, h => by
  obtain ⟨h1, h2⟩ := mvHM_eq f r h
  simp only [mvHM, mvH, Blk.renM, h1, idsHM, idsH, Blk.idsM, h2]
  exact ⟨trivial, trivial⟩
theorem Goes.mp {lim n0 : Nat} {st s : St} (V H : List Nat) (ps : List (Nat × Nat)) (h5 : mapsOk (pickL H st.heap)) (h1 : (⟨mvV (mvF ps) (pickL V st.vars), mvHM (mvF ps) (pickL H st.heap), s.nx⟩ : St) = s := by first | with_reducible rfl | rfl | (simp only [go_sem, Nat.reduceBEq, Nat.reduceAdd]; rfl))
  (h2 : n0 ≤ s.nx := by exact Nat.le_of_ble_eq_true rfl) (h3 : s.nx ≤ lim := by exact Nat.le_of_ble_eq_true rfl) (h4 : mvOk ps n0 s.nx (idsV (pickL V st.vars) ++ idsHM (pickL H st.heap)) = true := by kernel_rfl) : Goes lim n0 st s := by
 obtain ⟨e1, e2⟩ := mvHM_eq (mvF ps) _ h5
 rw [e1] at h1
 rw [e2] at h4
 exact .mv V H ps h1 h2 h3 h4
end Go.Tm
end
section
namespace Go.Proofs
open Go.Tm
structure TVote where
 Promised : Int
 Ballot : Int
 Value : List UInt8
 deriving Inhabited, DecidableEq
structure TSeen where
 Group : Int
 Slot : Int
 Vote : TVote
 deriving Inhabited, DecidableEq
structure TStable where
 Logs : List (List (List UInt8))
 Votes : List TSeen
 deriving Inhabited, DecidableEq
structure TRecord where
 Kind : Int
 Group : Int
 Slot : Int
 Ballot : Int
 Value : List UInt8
 deriving Inhabited, DecidableEq
def dL_str (l : List (List UInt8)) : D := .imm 1 (l.map D.str) 4
def nL_str (l : List (List UInt8)) : D := .imm 1 (l.map D.str) 12
theorem mk1_dL_str (l : List (List (List UInt8))) : mkML 1 (l.map dL_str) = l.map nL_str := mkML_map 1 (fun _ => rfl) l
def TVote.d (x : TVote) : D := .agg [.int .i64 x.Promised, .int .i64 x.Ballot, .str x.Value]
theorem mk1_TVote (l : List TVote) : mkML 1 (l.map TVote.d) = l.map TVote.d := mkML_map 1 (fun _ => rfl) l
def TSeen.d (x : TSeen) : D := .agg [.int .i64 x.Group, .int .i64 x.Slot, .int .i64 x.Vote.Promised, .int .i64 x.Vote.Ballot, .str x.Vote.Value]
theorem pl_TSeen : Pl TSeen.d := ⟨fun _ => rfl, fun _ => rfl, fun q h _ => by first | rfl | simp [TSeen.d, okM, okML, h]⟩
theorem mk1_TSeen (l : List TSeen) : mkML 1 (l.map TSeen.d) = l.map TSeen.d := mkML_map 1 (fun _ => rfl) l
theorem pl0_TSeen : Pl0 TSeen.d := ⟨pl_TSeen, fun _ _ => rfl⟩
def TStable.d (x : TStable) : D := .agg [.imm 1 (x.Logs.map dL_str) 4, .imm 5 (x.Votes.map TSeen.d) 4]
def TStable.n (x : TStable) : D := .agg [.imm 1 (x.Logs.map dL_str) 12, .imm 5 (x.Votes.map TSeen.d) 12]
theorem mk1_TStable (l : List TStable) : mkML 1 (l.map TStable.d) = l.map TStable.n := mkML_map 1 (fun _ => rfl) l
def TRecord.d (x : TRecord) : D := .agg [.int .u8 x.Kind, .int .i64 x.Group, .int .i64 x.Slot, .int .i64 x.Ballot, .str x.Value]
theorem mk1_TRecord (l : List TRecord) : mkML 1 (l.map TRecord.d) = l.map TRecord.d := mkML_map 1 (fun _ => rfl) l
end Go.Proofs
end
section
namespace Go.Proofs
open Go.Tm
def Try.tmL : List (Nat × TI) := [
 (1, { kind := 1, size := 1, offs := [], zero := [.nilfn], el := 0, esz := 0, eby := 0, eagg := false, ik := none, eqs := false, ezero := [] }),
 (2, { kind := 6, size := 1, offs := [], zero := [.int .i64 0], el := 0, esz := 0, eby := 0, eagg := false, ik := some .i64, eqs := false, ezero := [] }),
 (3, { kind := 6, size := 1, offs := [], zero := [.int .i64 0], el := 0, esz := 0, eby := 0, eagg := false, ik := some .i64, eqs := false, ezero := [] }),
 (4, { kind := 8, size := 1, offs := [], zero := [.bool false], el := 0, esz := 0, eby := 0, eagg := false, ik := none, eqs := false, ezero := [] }),
 (5, { kind := 6, size := 1, offs := [], zero := [.int .u8 0], el := 0, esz := 0, eby := 0, eagg := false, ik := some .u8, eqs := false, ezero := [] }),
 (6, { kind := 6, size := 1, offs := [], zero := [.int .u8 0], el := 0, esz := 0, eby := 0, eagg := false, ik := some .u8, eqs := false, ezero := [] }),
 (7, { kind := 2, size := 4, offs := [(0, 1, false), (1, 1, false), (2, 1, false), (3, 1, false)], zero := [.int .i64 0, .int .i64 0, .bool false, .int .u8 0], el := 0, esz := 0, eby := 0, eagg := false, ik := none, eqs := false, ezero := [] }),
 (8, { kind := 2, size := 4, offs := [(0, 1, false), (1, 1, false), (2, 1, false), (3, 1, false)], zero := [.int .i64 0, .int .i64 0, .bool false, .int .u8 0], el := 0, esz := 0, eby := 0, eagg := false, ik := none, eqs := false, ezero := [] }),
 (9, { kind := 5, size := 1, offs := [], zero := [.str []], el := 0, esz := 0, eby := 0, eagg := false, ik := none, eqs := false, ezero := [] }),
 (10, { kind := 5, size := 1, offs := [], zero := [.str []], el := 0, esz := 0, eby := 0, eagg := false, ik := none, eqs := false, ezero := [] }),
 (11, { kind := 5, size := 1, offs := [], zero := [.str []], el := 0, esz := 0, eby := 0, eagg := false, ik := none, eqs := false, ezero := [] }),
 (12, { kind := 6, size := 1, offs := [], zero := [.int .u64 0], el := 0, esz := 0, eby := 0, eagg := false, ik := some .u64, eqs := false, ezero := [] }),
 (13, { kind := 2, size := 2, offs := [(0, 1, false), (1, 1, false)], zero := [.str [], .int .u64 0], el := 0, esz := 0, eby := 0, eagg := false, ik := none, eqs := false, ezero := [] }),
 (14, { kind := 2, size := 2, offs := [(0, 1, false), (1, 1, false)], zero := [.str [], .int .u64 0], el := 0, esz := 0, eby := 0, eagg := false, ik := none, eqs := false, ezero := [] }),
 (15, { kind := 1, size := 1, offs := [], zero := [.nilptr], el := 0, esz := 0, eby := 0, eagg := false, ik := none, eqs := false, ezero := [] }),
 (16, { kind := 1, size := 1, offs := [], zero := [.nilptr], el := 0, esz := 0, eby := 0, eagg := false, ik := none, eqs := false, ezero := [] }),
 (17, { kind := 1, size := 1, offs := [], zero := [.nilptr], el := 0, esz := 0, eby := 0, eagg := false, ik := none, eqs := false, ezero := [] }),
 (18, { kind := 2, size := 1, offs := [(0, 1, false)], zero := [.nilptr], el := 0, esz := 0, eby := 0, eagg := false, ik := none, eqs := false, ezero := [] }),
 (19, { kind := 2, size := 1, offs := [(0, 1, false)], zero := [.nilptr], el := 0, esz := 0, eby := 0, eagg := false, ik := none, eqs := false, ezero := [] }),
 (20, { kind := 7, size := 1, offs := [], zero := [.nilIface], el := 0, esz := 0, eby := 0, eagg := false, ik := none, eqs := false, ezero := [] }),
 (21, { kind := 6, size := 1, offs := [], zero := [.int .i32 0], el := 0, esz := 0, eby := 0, eagg := false, ik := some .i32, eqs := false, ezero := [] }),
 (22, { kind := 3, size := 1, offs := [], zero := [.imm 0 [] 0], el := 34, esz := 1, eby := 24, eagg := false, ik := none, eqs := false, ezero := [.imm 0 [] 0] }),
 (23, { kind := 3, size := 1, offs := [], zero := [.imm 0 [] 0], el := 67, esz := 5, eby := 48, eagg := true, ik := none, eqs := false, ezero := [.int .i64 0, .int .i64 0, .int .i64 0, .int .i64 0, .str []] }),
 (24, { kind := 2, size := 2, offs := [(0, 1, false), (1, 1, false)], zero := [.imm 0 [] 0, .imm 0 [] 0], el := 0, esz := 0, eby := 0, eagg := false, ik := none, eqs := false, ezero := [] }),
 (25, { kind := 2, size := 2, offs := [(0, 1, false), (1, 1, false)], zero := [.imm 0 [] 0, .imm 0 [] 0], el := 0, esz := 0, eby := 0, eagg := false, ik := none, eqs := false, ezero := [] }),
 (26, { kind := 2, size := 5, offs := [(0, 1, false), (1, 1, false), (2, 1, false), (3, 1, false), (4, 1, false)], zero := [.int .u8 0, .int .i64 0, .int .i64 0, .int .i64 0, .str []], el := 0, esz := 0, eby := 0, eagg := false, ik := none, eqs := false, ezero := [] }),
 (27, { kind := 2, size := 5, offs := [(0, 1, false), (1, 1, false), (2, 1, false), (3, 1, false), (4, 1, false)], zero := [.int .u8 0, .int .i64 0, .int .i64 0, .int .i64 0, .str []], el := 0, esz := 0, eby := 0, eagg := false, ik := none, eqs := true, ezero := [] }),
 (28, { kind := 1, size := 1, offs := [], zero := [.nilfn], el := 0, esz := 0, eby := 0, eagg := false, ik := none, eqs := false, ezero := [] }),
 (29, { kind := 1, size := 1, offs := [], zero := [.nilfn], el := 0, esz := 0, eby := 0, eagg := false, ik := none, eqs := false, ezero := [] }),
 (30, { kind := 6, size := 1, offs := [], zero := [.int .i64 0], el := 0, esz := 0, eby := 0, eagg := false, ik := some .i64, eqs := false, ezero := [] }),
 (32, { kind := 1, size := 1, offs := [], zero := [.nilfn], el := 0, esz := 0, eby := 0, eagg := false, ik := none, eqs := false, ezero := [] }),
 (33, { kind := 1, size := 1, offs := [], zero := [.nilfn], el := 0, esz := 0, eby := 0, eagg := false, ik := none, eqs := false, ezero := [] }),
 (34, { kind := 3, size := 1, offs := [], zero := [.imm 0 [] 0], el := 9, esz := 1, eby := 16, eagg := false, ik := none, eqs := false, ezero := [.str []] }),
 (35, { kind := 1, size := 1, offs := [], zero := [.nilfn], el := 0, esz := 0, eby := 0, eagg := false, ik := none, eqs := false, ezero := [] }),
 (36, { kind := 2, size := 3, offs := [(0, 1, false), (1, 1, false), (2, 1, false)], zero := [.int .i64 0, .int .i64 0, .str []], el := 0, esz := 0, eby := 0, eagg := false, ik := none, eqs := false, ezero := [] }),
 (37, { kind := 2, size := 3, offs := [(0, 1, false), (1, 1, false), (2, 1, false)], zero := [.int .i64 0, .int .i64 0, .str []], el := 0, esz := 0, eby := 0, eagg := false, ik := none, eqs := true, ezero := [] }),
 (39, { kind := 1, size := 1, offs := [], zero := [.nilfn], el := 0, esz := 0, eby := 0, eagg := false, ik := none, eqs := false, ezero := [] }),
 (40, { kind := 1, size := 1, offs := [], zero := [.nilfn], el := 0, esz := 0, eby := 0, eagg := false, ik := none, eqs := false, ezero := [] }),
 (41, { kind := 1, size := 1, offs := [], zero := [.nilfn], el := 0, esz := 0, eby := 0, eagg := false, ik := none, eqs := false, ezero := [] }),
 (43, { kind := 1, size := 1, offs := [], zero := [.nilfn], el := 0, esz := 0, eby := 0, eagg := false, ik := none, eqs := false, ezero := [] }),
 (45, { kind := 1, size := 1, offs := [], zero := [.nilfn], el := 0, esz := 0, eby := 0, eagg := false, ik := none, eqs := false, ezero := [] }),
 (46, { kind := 1, size := 1, offs := [], zero := [.nilfn], el := 0, esz := 0, eby := 0, eagg := false, ik := none, eqs := false, ezero := [] }),
 (47, { kind := 1, size := 1, offs := [], zero := [.nilfn], el := 0, esz := 0, eby := 0, eagg := false, ik := none, eqs := false, ezero := [] }),
 (48, { kind := 1, size := 1, offs := [], zero := [.nilfn], el := 0, esz := 0, eby := 0, eagg := false, ik := none, eqs := false, ezero := [] }),
 (49, { kind := 1, size := 1, offs := [], zero := [.nilfn], el := 0, esz := 0, eby := 0, eagg := false, ik := none, eqs := false, ezero := [] }),
 (50, { kind := 1, size := 1, offs := [], zero := [.nilfn], el := 0, esz := 0, eby := 0, eagg := false, ik := none, eqs := false, ezero := [] }),
 (51, { kind := 1, size := 1, offs := [], zero := [.nilfn], el := 0, esz := 0, eby := 0, eagg := false, ik := none, eqs := false, ezero := [] }),
 (52, { kind := 1, size := 1, offs := [], zero := [.nilfn], el := 0, esz := 0, eby := 0, eagg := false, ik := none, eqs := false, ezero := [] }),
 (53, { kind := 1, size := 1, offs := [], zero := [.nilfn], el := 0, esz := 0, eby := 0, eagg := false, ik := none, eqs := false, ezero := [] }),
 (55, { kind := 1, size := 1, offs := [], zero := [.nilfn], el := 0, esz := 0, eby := 0, eagg := false, ik := none, eqs := false, ezero := [] }),
 (57, { kind := 1, size := 1, offs := [], zero := [.nilfn], el := 0, esz := 0, eby := 0, eagg := false, ik := none, eqs := false, ezero := [] }),
 (58, { kind := 1, size := 1, offs := [], zero := [.nilfn], el := 0, esz := 0, eby := 0, eagg := false, ik := none, eqs := false, ezero := [] }),
 (60, { kind := 1, size := 1, offs := [], zero := [.nilfn], el := 0, esz := 0, eby := 0, eagg := false, ik := none, eqs := false, ezero := [] }),
 (61, { kind := 1, size := 1, offs := [], zero := [.nilfn], el := 0, esz := 0, eby := 0, eagg := false, ik := none, eqs := false, ezero := [] }),
 (63, { kind := 1, size := 1, offs := [], zero := [.nilfn], el := 0, esz := 0, eby := 0, eagg := false, ik := none, eqs := false, ezero := [] }),
 (64, { kind := 1, size := 1, offs := [], zero := [.nilfn], el := 0, esz := 0, eby := 0, eagg := false, ik := none, eqs := false, ezero := [] }),
 (65, { kind := 1, size := 1, offs := [], zero := [.nilfn], el := 0, esz := 0, eby := 0, eagg := false, ik := none, eqs := false, ezero := [] }),
 (66, { kind := 2, size := 5, offs := [(0, 1, false), (1, 1, false), (2, 3, true)], zero := [.int .i64 0, .int .i64 0, .int .i64 0, .int .i64 0, .str []], el := 0, esz := 0, eby := 0, eagg := false, ik := none, eqs := false, ezero := [] }),
 (67, { kind := 2, size := 5, offs := [(0, 1, false), (1, 1, false), (2, 3, true)], zero := [.int .i64 0, .int .i64 0, .int .i64 0, .int .i64 0, .str []], el := 0, esz := 0, eby := 0, eagg := false, ik := none, eqs := true, ezero := [] }),
 (68, { kind := 1, size := 1, offs := [], zero := [.nilfn], el := 0, esz := 0, eby := 0, eagg := false, ik := none, eqs := false, ezero := [] }),
 (69, { kind := 1, size := 1, offs := [], zero := [.nilfn], el := 0, esz := 0, eby := 0, eagg := false, ik := none, eqs := false, ezero := [] }),
 (70, { kind := 1, size := 1, offs := [], zero := [.nilptr], el := 0, esz := 0, eby := 0, eagg := false, ik := none, eqs := false, ezero := [] }),
 (71, { kind := 1, size := 1, offs := [], zero := [.nilfn], el := 0, esz := 0, eby := 0, eagg := false, ik := none, eqs := false, ezero := [] }),
 (72, { kind := 1, size := 1, offs := [], zero := [.nilfn], el := 0, esz := 0, eby := 0, eagg := false, ik := none, eqs := false, ezero := [] }),
 (73, { kind := 1, size := 1, offs := [], zero := [.nilfn], el := 0, esz := 0, eby := 0, eagg := false, ik := none, eqs := false, ezero := [] }),
 (74, { kind := 1, size := 1, offs := [], zero := [.nilfn], el := 0, esz := 0, eby := 0, eagg := false, ik := none, eqs := false, ezero := [] }),
 (76, { kind := 1, size := 1, offs := [], zero := [.nilfn], el := 0, esz := 0, eby := 0, eagg := false, ik := none, eqs := false, ezero := [] }),
 (77, { kind := 1, size := 1, offs := [], zero := [.nilfn], el := 0, esz := 0, eby := 0, eagg := false, ik := none, eqs := false, ezero := [] }),
 (78, { kind := 1, size := 1, offs := [], zero := [.nilfn], el := 0, esz := 0, eby := 0, eagg := false, ik := none, eqs := false, ezero := [] }),
 (79, { kind := 1, size := 1, offs := [], zero := [.nilfn], el := 0, esz := 0, eby := 0, eagg := false, ik := none, eqs := false, ezero := [] }),
 (80, { kind := 1, size := 1, offs := [], zero := [.nilfn], el := 0, esz := 0, eby := 0, eagg := false, ik := none, eqs := false, ezero := [] }),
 (81, { kind := 1, size := 1, offs := [], zero := [.nilfn], el := 0, esz := 0, eby := 0, eagg := false, ik := none, eqs := false, ezero := [] }),
 (82, { kind := 1, size := 1, offs := [], zero := [.nilfn], el := 0, esz := 0, eby := 0, eagg := false, ik := none, eqs := false, ezero := [] }),
 (83, { kind := 1, size := 1, offs := [], zero := [.nilfn], el := 0, esz := 0, eby := 0, eagg := false, ik := none, eqs := false, ezero := [] }),
 (84, { kind := 1, size := 1, offs := [], zero := [.nilfn], el := 0, esz := 0, eby := 0, eagg := false, ik := none, eqs := false, ezero := [] }),
 (85, { kind := 1, size := 1, offs := [], zero := [.nilfn], el := 0, esz := 0, eby := 0, eagg := false, ik := none, eqs := false, ezero := [] }),
 (86, { kind := 1, size := 1, offs := [], zero := [.nilfn], el := 0, esz := 0, eby := 0, eagg := false, ik := none, eqs := false, ezero := [] }),
 (87, { kind := 1, size := 1, offs := [], zero := [.nilfn], el := 0, esz := 0, eby := 0, eagg := false, ik := none, eqs := false, ezero := [] }),
 (89, { kind := 1, size := 1, offs := [], zero := [.nilfn], el := 0, esz := 0, eby := 0, eagg := false, ik := none, eqs := false, ezero := [] }),
 (91, { kind := 1, size := 1, offs := [], zero := [.nilfn], el := 0, esz := 0, eby := 0, eagg := false, ik := none, eqs := false, ezero := [] }),
 (92, { kind := 1, size := 1, offs := [], zero := [.nilfn], el := 0, esz := 0, eby := 0, eagg := false, ik := none, eqs := false, ezero := [] }),
 (93, { kind := 3, size := 1, offs := [], zero := [.imm 0 [] 0], el := 27, esz := 5, eby := 48, eagg := true, ik := none, eqs := false, ezero := [.int .u8 0, .int .i64 0, .int .i64 0, .int .i64 0, .str []] }),
 (94, { kind := 1, size := 1, offs := [], zero := [.nilfn], el := 0, esz := 0, eby := 0, eagg := false, ik := none, eqs := false, ezero := [] }),
 (95, { kind := 1, size := 1, offs := [], zero := [.nilfn], el := 0, esz := 0, eby := 0, eagg := false, ik := none, eqs := false, ezero := [] }),
 (96, { kind := 3, size := 1, offs := [], zero := [.imm 0 [] 0], el := 5, esz := 1, eby := 1, eagg := false, ik := none, eqs := false, ezero := [.int .u8 0] }),
 (98, { kind := 1, size := 1, offs := [], zero := [.nilfn], el := 0, esz := 0, eby := 0, eagg := false, ik := none, eqs := false, ezero := [] }),
 (99, { kind := 1, size := 1, offs := [], zero := [.nilfn], el := 0, esz := 0, eby := 0, eagg := false, ik := none, eqs := false, ezero := [] }),
 (101, { kind := 1, size := 1, offs := [], zero := [.nilfn], el := 0, esz := 0, eby := 0, eagg := false, ik := none, eqs := false, ezero := [] }),
 (103, { kind := 1, size := 1, offs := [], zero := [.nilfn], el := 0, esz := 0, eby := 0, eagg := false, ik := none, eqs := false, ezero := [] }),
 (104, { kind := 1, size := 1, offs := [], zero := [.nilfn], el := 0, esz := 0, eby := 0, eagg := false, ik := none, eqs := false, ezero := [] }),
 (105, { kind := 1, size := 1, offs := [], zero := [.nilptr], el := 0, esz := 0, eby := 0, eagg := false, ik := none, eqs := false, ezero := [] }),
 (106, { kind := 1, size := 1, offs := [], zero := [.nilfn], el := 0, esz := 0, eby := 0, eagg := false, ik := none, eqs := false, ezero := [] }),
 (107, { kind := 1, size := 1, offs := [], zero := [.nilfn], el := 0, esz := 0, eby := 0, eagg := false, ik := none, eqs := false, ezero := [] }),
 (108, { kind := 1, size := 1, offs := [], zero := [.nilfn], el := 0, esz := 0, eby := 0, eagg := false, ik := none, eqs := false, ezero := [] }),
 (109, { kind := 1, size := 1, offs := [], zero := [.nilfn], el := 0, esz := 0, eby := 0, eagg := false, ik := none, eqs := false, ezero := [] }),
 (110, { kind := 1, size := 1, offs := [], zero := [.nilfn], el := 0, esz := 0, eby := 0, eagg := false, ik := none, eqs := false, ezero := [] }),
 (111, { kind := 1, size := 1, offs := [], zero := [.nilfn], el := 0, esz := 0, eby := 0, eagg := false, ik := none, eqs := false, ezero := [] }),
 (112, { kind := 1, size := 1, offs := [], zero := [.nilfn], el := 0, esz := 0, eby := 0, eagg := false, ik := none, eqs := false, ezero := [] }),
 (113, { kind := 6, size := 1, offs := [], zero := [.int .u64 0], el := 0, esz := 0, eby := 0, eagg := false, ik := some .u64, eqs := false, ezero := [] }),
 (114, { kind := 1, size := 1, offs := [], zero := [.nilfn], el := 0, esz := 0, eby := 0, eagg := false, ik := none, eqs := false, ezero := [] }),
 (115, { kind := 1, size := 1, offs := [], zero := [.nilfn], el := 0, esz := 0, eby := 0, eagg := false, ik := none, eqs := false, ezero := [] }),
 (116, { kind := 1, size := 1, offs := [], zero := [.nilptr], el := 0, esz := 0, eby := 0, eagg := false, ik := none, eqs := false, ezero := [] }),
 (117, { kind := 2, size := 2, offs := [(0, 1, false), (1, 1, false)], zero := [.imm 0 [] 0, .bool false], el := 0, esz := 0, eby := 0, eagg := false, ik := none, eqs := false, ezero := [] }),
 (118, { kind := 2, size := 2, offs := [(0, 1, false), (1, 1, false)], zero := [.imm 0 [] 0, .bool false], el := 0, esz := 0, eby := 0, eagg := false, ik := none, eqs := false, ezero := [] }),
 (119, { kind := 1, size := 1, offs := [], zero := [.nilfn], el := 0, esz := 0, eby := 0, eagg := false, ik := none, eqs := false, ezero := [] }),
 (120, { kind := 1, size := 1, offs := [], zero := [.nilfn], el := 0, esz := 0, eby := 0, eagg := false, ik := none, eqs := false, ezero := [] }),
 (121, { kind := 1, size := 1, offs := [], zero := [.nilfn], el := 0, esz := 0, eby := 0, eagg := false, ik := none, eqs := false, ezero := [] }),
 (123, { kind := 1, size := 1, offs := [], zero := [.nilfn], el := 0, esz := 0, eby := 0, eagg := false, ik := none, eqs := false, ezero := [] }),
 (124, { kind := 1, size := 1, offs := [], zero := [.nilfn], el := 0, esz := 0, eby := 0, eagg := false, ik := none, eqs := false, ezero := [] }),
 (125, { kind := 1, size := 1, offs := [], zero := [.nilfn], el := 0, esz := 0, eby := 0, eagg := false, ik := none, eqs := false, ezero := [] }),
 (126, { kind := 1, size := 1, offs := [], zero := [.nilfn], el := 0, esz := 0, eby := 0, eagg := false, ik := none, eqs := false, ezero := [] }),
 (127, { kind := 1, size := 1, offs := [], zero := [.nilfn], el := 0, esz := 0, eby := 0, eagg := false, ik := none, eqs := false, ezero := [] }),
 (128, { kind := 1, size := 1, offs := [], zero := [.nilfn], el := 0, esz := 0, eby := 0, eagg := false, ik := none, eqs := false, ezero := [] }),
 (129, { kind := 1, size := 1, offs := [], zero := [.nilfn], el := 0, esz := 0, eby := 0, eagg := false, ik := none, eqs := false, ezero := [] }),
 (130, { kind := 3, size := 1, offs := [], zero := [.imm 0 [] 0], el := 3, esz := 1, eby := 8, eagg := false, ik := none, eqs := false, ezero := [.int .i64 0] }),
 (132, { kind := 1, size := 1, offs := [], zero := [.nilfn], el := 0, esz := 0, eby := 0, eagg := false, ik := none, eqs := false, ezero := [] }),
 (134, { kind := 1, size := 1, offs := [], zero := [.nilfn], el := 0, esz := 0, eby := 0, eagg := false, ik := none, eqs := false, ezero := [] }),
 (135, { kind := 1, size := 1, offs := [], zero := [.nilfn], el := 0, esz := 0, eby := 0, eagg := false, ik := none, eqs := false, ezero := [] }),
 (136, { kind := 1, size := 1, offs := [], zero := [.nilfn], el := 0, esz := 0, eby := 0, eagg := false, ik := none, eqs := false, ezero := [] }),
 (137, { kind := 1, size := 1, offs := [], zero := [.nilfn], el := 0, esz := 0, eby := 0, eagg := false, ik := none, eqs := false, ezero := [] }),
 (138, { kind := 2, size := 4, offs := [(0, 1, false), (1, 1, false), (2, 1, false), (3, 1, false)], zero := [.nilptr, .nilptr, .nilptr, .str []], el := 0, esz := 0, eby := 0, eagg := false, ik := none, eqs := false, ezero := [] }),
 (139, { kind := 2, size := 4, offs := [(0, 1, false), (1, 1, false), (2, 1, false), (3, 1, false)], zero := [.nilptr, .nilptr, .nilptr, .str []], el := 0, esz := 0, eby := 0, eagg := false, ik := none, eqs := false, ezero := [] }),
 (140, { kind := 4, size := 0, offs := [], zero := [], el := 0, esz := 0, eby := 0, eagg := false, ik := none, eqs := false, ezero := [] }),
 (143, { kind := 6, size := 1, offs := [], zero := [.int .u32 0], el := 0, esz := 0, eby := 0, eagg := false, ik := some .u32, eqs := false, ezero := [] }),
 (144, { kind := 6, size := 1, offs := [], zero := [.int .u8 0], el := 0, esz := 0, eby := 0, eagg := false, ik := some .u8, eqs := false, ezero := [] }),
 (145, { kind := 6, size := 1, offs := [], zero := [.int .u8 0], el := 0, esz := 0, eby := 0, eagg := false, ik := some .u8, eqs := false, ezero := [] }),
 (146, { kind := 1, size := 1, offs := [], zero := [.nilfn], el := 0, esz := 0, eby := 0, eagg := false, ik := none, eqs := false, ezero := [] }),
 (147, { kind := 1, size := 1, offs := [], zero := [.nilptr], el := 0, esz := 0, eby := 0, eagg := false, ik := none, eqs := false, ezero := [] }),
 (148, { kind := 6, size := 1, offs := [], zero := [.int .i32 0], el := 0, esz := 0, eby := 0, eagg := false, ik := some .i32, eqs := false, ezero := [] }),
 (149, { kind := 6, size := 1, offs := [], zero := [.int .i32 0], el := 0, esz := 0, eby := 0, eagg := false, ik := some .i32, eqs := false, ezero := [] }),
 (150, { kind := 2, size := 11, offs := [(0, 1, false), (1, 1, false), (2, 1, false), (3, 1, false), (4, 1, false), (5, 1, false), (6, 1, false), (7, 1, false), (8, 1, false), (9, 1, false), (10, 1, false)], zero := [.int .u64 0, .int .u64 0, .int .u32 0, .int .u8 0, .int .u8 0, .int .u8 0, .int .u8 0, .nilfn, .nilptr, .int .i32 0, .int .i32 0], el := 0, esz := 0, eby := 0, eagg := false, ik := none, eqs := false, ezero := [] }),
 (151, { kind := 2, size := 11, offs := [(0, 1, false), (1, 1, false), (2, 1, false), (3, 1, false), (4, 1, false), (5, 1, false), (6, 1, false), (7, 1, false), (8, 1, false), (9, 1, false), (10, 1, false)], zero := [.int .u64 0, .int .u64 0, .int .u32 0, .int .u8 0, .int .u8 0, .int .u8 0, .int .u8 0, .nilfn, .nilptr, .int .i32 0, .int .i32 0], el := 0, esz := 0, eby := 0, eagg := false, ik := none, eqs := false, ezero := [] })]
def Try.tm (t : Nat) : TI := match getL Try.tmL t with | some x => x | none => default
theorem Try.tmAll : (Try.tmL.all fun x => tiChk Try.prog x.1 x.2 && (!x.2.eqs || eqsChk Try.prog x.1 x.2)) = true := by kernel_rfl
theorem Try.tmOk : TabOk Try.prog Try.tm := tabOk_of Try.tmAll
theorem Try.tmMixed : Try.prog.follows .mixedOrders = true := by kernel_rfl
end Go.Proofs
end
section
namespace Go.Proofs
open Go.Tm
theorem Try.tm_1 : Try.tm 1 = { kind := 1, size := 1, offs := [], zero := [.nilfn], el := 0, esz := 0, eby := 0, eagg := false, ik := none, eqs := false, ezero := [] } := by kernel_rfl
theorem Try.tm_2 : Try.tm 2 = { kind := 6, size := 1, offs := [], zero := [.int .i64 0], el := 0, esz := 0, eby := 0, eagg := false, ik := some .i64, eqs := false, ezero := [] } := by kernel_rfl
theorem Try.tm_3 : Try.tm 3 = { kind := 6, size := 1, offs := [], zero := [.int .i64 0], el := 0, esz := 0, eby := 0, eagg := false, ik := some .i64, eqs := false, ezero := [] } := by kernel_rfl
theorem Try.tm_4 : Try.tm 4 = { kind := 8, size := 1, offs := [], zero := [.bool false], el := 0, esz := 0, eby := 0, eagg := false, ik := none, eqs := false, ezero := [] } := by kernel_rfl
theorem Try.tm_5 : Try.tm 5 = { kind := 6, size := 1, offs := [], zero := [.int .u8 0], el := 0, esz := 0, eby := 0, eagg := false, ik := some .u8, eqs := false, ezero := [] } := by kernel_rfl
theorem Try.tm_6 : Try.tm 6 = { kind := 6, size := 1, offs := [], zero := [.int .u8 0], el := 0, esz := 0, eby := 0, eagg := false, ik := some .u8, eqs := false, ezero := [] } := by kernel_rfl
theorem Try.tm_7 : Try.tm 7 = { kind := 2, size := 4, offs := [(0, 1, false), (1, 1, false), (2, 1, false), (3, 1, false)], zero := [.int .i64 0, .int .i64 0, .bool false, .int .u8 0], el := 0, esz := 0, eby := 0, eagg := false, ik := none, eqs := false, ezero := [] } := by kernel_rfl
theorem Try.tm_8 : Try.tm 8 = { kind := 2, size := 4, offs := [(0, 1, false), (1, 1, false), (2, 1, false), (3, 1, false)], zero := [.int .i64 0, .int .i64 0, .bool false, .int .u8 0], el := 0, esz := 0, eby := 0, eagg := false, ik := none, eqs := false, ezero := [] } := by kernel_rfl
theorem Try.tm_9 : Try.tm 9 = { kind := 5, size := 1, offs := [], zero := [.str []], el := 0, esz := 0, eby := 0, eagg := false, ik := none, eqs := false, ezero := [] } := by kernel_rfl
theorem Try.tm_10 : Try.tm 10 = { kind := 5, size := 1, offs := [], zero := [.str []], el := 0, esz := 0, eby := 0, eagg := false, ik := none, eqs := false, ezero := [] } := by kernel_rfl
theorem Try.tm_11 : Try.tm 11 = { kind := 5, size := 1, offs := [], zero := [.str []], el := 0, esz := 0, eby := 0, eagg := false, ik := none, eqs := false, ezero := [] } := by kernel_rfl
theorem Try.tm_12 : Try.tm 12 = { kind := 6, size := 1, offs := [], zero := [.int .u64 0], el := 0, esz := 0, eby := 0, eagg := false, ik := some .u64, eqs := false, ezero := [] } := by kernel_rfl
theorem Try.tm_13 : Try.tm 13 = { kind := 2, size := 2, offs := [(0, 1, false), (1, 1, false)], zero := [.str [], .int .u64 0], el := 0, esz := 0, eby := 0, eagg := false, ik := none, eqs := false, ezero := [] } := by kernel_rfl
theorem Try.tm_14 : Try.tm 14 = { kind := 2, size := 2, offs := [(0, 1, false), (1, 1, false)], zero := [.str [], .int .u64 0], el := 0, esz := 0, eby := 0, eagg := false, ik := none, eqs := false, ezero := [] } := by kernel_rfl
theorem Try.tm_15 : Try.tm 15 = { kind := 1, size := 1, offs := [], zero := [.nilptr], el := 0, esz := 0, eby := 0, eagg := false, ik := none, eqs := false, ezero := [] } := by kernel_rfl
theorem Try.tm_16 : Try.tm 16 = { kind := 1, size := 1, offs := [], zero := [.nilptr], el := 0, esz := 0, eby := 0, eagg := false, ik := none, eqs := false, ezero := [] } := by kernel_rfl
theorem Try.tm_17 : Try.tm 17 = { kind := 1, size := 1, offs := [], zero := [.nilptr], el := 0, esz := 0, eby := 0, eagg := false, ik := none, eqs := false, ezero := [] } := by kernel_rfl
theorem Try.tm_18 : Try.tm 18 = { kind := 2, size := 1, offs := [(0, 1, false)], zero := [.nilptr], el := 0, esz := 0, eby := 0, eagg := false, ik := none, eqs := false, ezero := [] } := by kernel_rfl
theorem Try.tm_19 : Try.tm 19 = { kind := 2, size := 1, offs := [(0, 1, false)], zero := [.nilptr], el := 0, esz := 0, eby := 0, eagg := false, ik := none, eqs := false, ezero := [] } := by kernel_rfl
theorem Try.tm_20 : Try.tm 20 = { kind := 7, size := 1, offs := [], zero := [.nilIface], el := 0, esz := 0, eby := 0, eagg := false, ik := none, eqs := false, ezero := [] } := by kernel_rfl
theorem Try.tm_21 : Try.tm 21 = { kind := 6, size := 1, offs := [], zero := [.int .i32 0], el := 0, esz := 0, eby := 0, eagg := false, ik := some .i32, eqs := false, ezero := [] } := by kernel_rfl
theorem Try.tm_22 : Try.tm 22 = { kind := 3, size := 1, offs := [], zero := [.imm 0 [] 0], el := 34, esz := 1, eby := 24, eagg := false, ik := none, eqs := false, ezero := [.imm 0 [] 0] } := by kernel_rfl
theorem Try.tm_23 : Try.tm 23 = { kind := 3, size := 1, offs := [], zero := [.imm 0 [] 0], el := 67, esz := 5, eby := 48, eagg := true, ik := none, eqs := false, ezero := [.int .i64 0, .int .i64 0, .int .i64 0, .int .i64 0, .str []] } := by kernel_rfl
theorem Try.tm_24 : Try.tm 24 = { kind := 2, size := 2, offs := [(0, 1, false), (1, 1, false)], zero := [.imm 0 [] 0, .imm 0 [] 0], el := 0, esz := 0, eby := 0, eagg := false, ik := none, eqs := false, ezero := [] } := by kernel_rfl
theorem Try.tm_25 : Try.tm 25 = { kind := 2, size := 2, offs := [(0, 1, false), (1, 1, false)], zero := [.imm 0 [] 0, .imm 0 [] 0], el := 0, esz := 0, eby := 0, eagg := false, ik := none, eqs := false, ezero := [] } := by kernel_rfl
theorem Try.tm_26 : Try.tm 26 = { kind := 2, size := 5, offs := [(0, 1, false), (1, 1, false), (2, 1, false), (3, 1, false), (4, 1, false)], zero := [.int .u8 0, .int .i64 0, .int .i64 0, .int .i64 0, .str []], el := 0, esz := 0, eby := 0, eagg := false, ik := none, eqs := false, ezero := [] } := by kernel_rfl
theorem Try.tm_27 : Try.tm 27 = { kind := 2, size := 5, offs := [(0, 1, false), (1, 1, false), (2, 1, false), (3, 1, false), (4, 1, false)], zero := [.int .u8 0, .int .i64 0, .int .i64 0, .int .i64 0, .str []], el := 0, esz := 0, eby := 0, eagg := false, ik := none, eqs := true, ezero := [] } := by kernel_rfl
theorem Try.tm_28 : Try.tm 28 = { kind := 1, size := 1, offs := [], zero := [.nilfn], el := 0, esz := 0, eby := 0, eagg := false, ik := none, eqs := false, ezero := [] } := by kernel_rfl
theorem Try.tm_29 : Try.tm 29 = { kind := 1, size := 1, offs := [], zero := [.nilfn], el := 0, esz := 0, eby := 0, eagg := false, ik := none, eqs := false, ezero := [] } := by kernel_rfl
theorem Try.tm_30 : Try.tm 30 = { kind := 6, size := 1, offs := [], zero := [.int .i64 0], el := 0, esz := 0, eby := 0, eagg := false, ik := some .i64, eqs := false, ezero := [] } := by kernel_rfl
theorem Try.tm_32 : Try.tm 32 = { kind := 1, size := 1, offs := [], zero := [.nilfn], el := 0, esz := 0, eby := 0, eagg := false, ik := none, eqs := false, ezero := [] } := by kernel_rfl
theorem Try.tm_33 : Try.tm 33 = { kind := 1, size := 1, offs := [], zero := [.nilfn], el := 0, esz := 0, eby := 0, eagg := false, ik := none, eqs := false, ezero := [] } := by kernel_rfl
theorem Try.tm_34 : Try.tm 34 = { kind := 3, size := 1, offs := [], zero := [.imm 0 [] 0], el := 9, esz := 1, eby := 16, eagg := false, ik := none, eqs := false, ezero := [.str []] } := by kernel_rfl
theorem Try.tm_35 : Try.tm 35 = { kind := 1, size := 1, offs := [], zero := [.nilfn], el := 0, esz := 0, eby := 0, eagg := false, ik := none, eqs := false, ezero := [] } := by kernel_rfl
theorem Try.tm_36 : Try.tm 36 = { kind := 2, size := 3, offs := [(0, 1, false), (1, 1, false), (2, 1, false)], zero := [.int .i64 0, .int .i64 0, .str []], el := 0, esz := 0, eby := 0, eagg := false, ik := none, eqs := false, ezero := [] } := by kernel_rfl
theorem Try.tm_37 : Try.tm 37 = { kind := 2, size := 3, offs := [(0, 1, false), (1, 1, false), (2, 1, false)], zero := [.int .i64 0, .int .i64 0, .str []], el := 0, esz := 0, eby := 0, eagg := false, ik := none, eqs := true, ezero := [] } := by kernel_rfl
theorem Try.tm_39 : Try.tm 39 = { kind := 1, size := 1, offs := [], zero := [.nilfn], el := 0, esz := 0, eby := 0, eagg := false, ik := none, eqs := false, ezero := [] } := by kernel_rfl
theorem Try.tm_40 : Try.tm 40 = { kind := 1, size := 1, offs := [], zero := [.nilfn], el := 0, esz := 0, eby := 0, eagg := false, ik := none, eqs := false, ezero := [] } := by kernel_rfl
theorem Try.tm_41 : Try.tm 41 = { kind := 1, size := 1, offs := [], zero := [.nilfn], el := 0, esz := 0, eby := 0, eagg := false, ik := none, eqs := false, ezero := [] } := by kernel_rfl
theorem Try.tm_43 : Try.tm 43 = { kind := 1, size := 1, offs := [], zero := [.nilfn], el := 0, esz := 0, eby := 0, eagg := false, ik := none, eqs := false, ezero := [] } := by kernel_rfl
theorem Try.tm_45 : Try.tm 45 = { kind := 1, size := 1, offs := [], zero := [.nilfn], el := 0, esz := 0, eby := 0, eagg := false, ik := none, eqs := false, ezero := [] } := by kernel_rfl
theorem Try.tm_46 : Try.tm 46 = { kind := 1, size := 1, offs := [], zero := [.nilfn], el := 0, esz := 0, eby := 0, eagg := false, ik := none, eqs := false, ezero := [] } := by kernel_rfl
theorem Try.tm_47 : Try.tm 47 = { kind := 1, size := 1, offs := [], zero := [.nilfn], el := 0, esz := 0, eby := 0, eagg := false, ik := none, eqs := false, ezero := [] } := by kernel_rfl
theorem Try.tm_48 : Try.tm 48 = { kind := 1, size := 1, offs := [], zero := [.nilfn], el := 0, esz := 0, eby := 0, eagg := false, ik := none, eqs := false, ezero := [] } := by kernel_rfl
theorem Try.tm_49 : Try.tm 49 = { kind := 1, size := 1, offs := [], zero := [.nilfn], el := 0, esz := 0, eby := 0, eagg := false, ik := none, eqs := false, ezero := [] } := by kernel_rfl
theorem Try.tm_50 : Try.tm 50 = { kind := 1, size := 1, offs := [], zero := [.nilfn], el := 0, esz := 0, eby := 0, eagg := false, ik := none, eqs := false, ezero := [] } := by kernel_rfl
theorem Try.tm_51 : Try.tm 51 = { kind := 1, size := 1, offs := [], zero := [.nilfn], el := 0, esz := 0, eby := 0, eagg := false, ik := none, eqs := false, ezero := [] } := by kernel_rfl
theorem Try.tm_52 : Try.tm 52 = { kind := 1, size := 1, offs := [], zero := [.nilfn], el := 0, esz := 0, eby := 0, eagg := false, ik := none, eqs := false, ezero := [] } := by kernel_rfl
theorem Try.tm_53 : Try.tm 53 = { kind := 1, size := 1, offs := [], zero := [.nilfn], el := 0, esz := 0, eby := 0, eagg := false, ik := none, eqs := false, ezero := [] } := by kernel_rfl
theorem Try.tm_55 : Try.tm 55 = { kind := 1, size := 1, offs := [], zero := [.nilfn], el := 0, esz := 0, eby := 0, eagg := false, ik := none, eqs := false, ezero := [] } := by kernel_rfl
theorem Try.tm_57 : Try.tm 57 = { kind := 1, size := 1, offs := [], zero := [.nilfn], el := 0, esz := 0, eby := 0, eagg := false, ik := none, eqs := false, ezero := [] } := by kernel_rfl
theorem Try.tm_58 : Try.tm 58 = { kind := 1, size := 1, offs := [], zero := [.nilfn], el := 0, esz := 0, eby := 0, eagg := false, ik := none, eqs := false, ezero := [] } := by kernel_rfl
theorem Try.tm_60 : Try.tm 60 = { kind := 1, size := 1, offs := [], zero := [.nilfn], el := 0, esz := 0, eby := 0, eagg := false, ik := none, eqs := false, ezero := [] } := by kernel_rfl
theorem Try.tm_61 : Try.tm 61 = { kind := 1, size := 1, offs := [], zero := [.nilfn], el := 0, esz := 0, eby := 0, eagg := false, ik := none, eqs := false, ezero := [] } := by kernel_rfl
theorem Try.tm_63 : Try.tm 63 = { kind := 1, size := 1, offs := [], zero := [.nilfn], el := 0, esz := 0, eby := 0, eagg := false, ik := none, eqs := false, ezero := [] } := by kernel_rfl
theorem Try.tm_64 : Try.tm 64 = { kind := 1, size := 1, offs := [], zero := [.nilfn], el := 0, esz := 0, eby := 0, eagg := false, ik := none, eqs := false, ezero := [] } := by kernel_rfl
theorem Try.tm_65 : Try.tm 65 = { kind := 1, size := 1, offs := [], zero := [.nilfn], el := 0, esz := 0, eby := 0, eagg := false, ik := none, eqs := false, ezero := [] } := by kernel_rfl
theorem Try.tm_66 : Try.tm 66 = { kind := 2, size := 5, offs := [(0, 1, false), (1, 1, false), (2, 3, true)], zero := [.int .i64 0, .int .i64 0, .int .i64 0, .int .i64 0, .str []], el := 0, esz := 0, eby := 0, eagg := false, ik := none, eqs := false, ezero := [] } := by kernel_rfl
theorem Try.tm_67 : Try.tm 67 = { kind := 2, size := 5, offs := [(0, 1, false), (1, 1, false), (2, 3, true)], zero := [.int .i64 0, .int .i64 0, .int .i64 0, .int .i64 0, .str []], el := 0, esz := 0, eby := 0, eagg := false, ik := none, eqs := true, ezero := [] } := by kernel_rfl
theorem Try.tm_68 : Try.tm 68 = { kind := 1, size := 1, offs := [], zero := [.nilfn], el := 0, esz := 0, eby := 0, eagg := false, ik := none, eqs := false, ezero := [] } := by kernel_rfl
theorem Try.tm_69 : Try.tm 69 = { kind := 1, size := 1, offs := [], zero := [.nilfn], el := 0, esz := 0, eby := 0, eagg := false, ik := none, eqs := false, ezero := [] } := by kernel_rfl
theorem Try.tm_70 : Try.tm 70 = { kind := 1, size := 1, offs := [], zero := [.nilptr], el := 0, esz := 0, eby := 0, eagg := false, ik := none, eqs := false, ezero := [] } := by kernel_rfl
theorem Try.tm_71 : Try.tm 71 = { kind := 1, size := 1, offs := [], zero := [.nilfn], el := 0, esz := 0, eby := 0, eagg := false, ik := none, eqs := false, ezero := [] } := by kernel_rfl
theorem Try.tm_72 : Try.tm 72 = { kind := 1, size := 1, offs := [], zero := [.nilfn], el := 0, esz := 0, eby := 0, eagg := false, ik := none, eqs := false, ezero := [] } := by kernel_rfl
theorem Try.tm_73 : Try.tm 73 = { kind := 1, size := 1, offs := [], zero := [.nilfn], el := 0, esz := 0, eby := 0, eagg := false, ik := none, eqs := false, ezero := [] } := by kernel_rfl
theorem Try.tm_74 : Try.tm 74 = { kind := 1, size := 1, offs := [], zero := [.nilfn], el := 0, esz := 0, eby := 0, eagg := false, ik := none, eqs := false, ezero := [] } := by kernel_rfl
theorem Try.tm_76 : Try.tm 76 = { kind := 1, size := 1, offs := [], zero := [.nilfn], el := 0, esz := 0, eby := 0, eagg := false, ik := none, eqs := false, ezero := [] } := by kernel_rfl
theorem Try.tm_77 : Try.tm 77 = { kind := 1, size := 1, offs := [], zero := [.nilfn], el := 0, esz := 0, eby := 0, eagg := false, ik := none, eqs := false, ezero := [] } := by kernel_rfl
theorem Try.tm_78 : Try.tm 78 = { kind := 1, size := 1, offs := [], zero := [.nilfn], el := 0, esz := 0, eby := 0, eagg := false, ik := none, eqs := false, ezero := [] } := by kernel_rfl
theorem Try.tm_79 : Try.tm 79 = { kind := 1, size := 1, offs := [], zero := [.nilfn], el := 0, esz := 0, eby := 0, eagg := false, ik := none, eqs := false, ezero := [] } := by kernel_rfl
theorem Try.tm_80 : Try.tm 80 = { kind := 1, size := 1, offs := [], zero := [.nilfn], el := 0, esz := 0, eby := 0, eagg := false, ik := none, eqs := false, ezero := [] } := by kernel_rfl
theorem Try.tm_81 : Try.tm 81 = { kind := 1, size := 1, offs := [], zero := [.nilfn], el := 0, esz := 0, eby := 0, eagg := false, ik := none, eqs := false, ezero := [] } := by kernel_rfl
theorem Try.tm_82 : Try.tm 82 = { kind := 1, size := 1, offs := [], zero := [.nilfn], el := 0, esz := 0, eby := 0, eagg := false, ik := none, eqs := false, ezero := [] } := by kernel_rfl
theorem Try.tm_83 : Try.tm 83 = { kind := 1, size := 1, offs := [], zero := [.nilfn], el := 0, esz := 0, eby := 0, eagg := false, ik := none, eqs := false, ezero := [] } := by kernel_rfl
theorem Try.tm_84 : Try.tm 84 = { kind := 1, size := 1, offs := [], zero := [.nilfn], el := 0, esz := 0, eby := 0, eagg := false, ik := none, eqs := false, ezero := [] } := by kernel_rfl
theorem Try.tm_85 : Try.tm 85 = { kind := 1, size := 1, offs := [], zero := [.nilfn], el := 0, esz := 0, eby := 0, eagg := false, ik := none, eqs := false, ezero := [] } := by kernel_rfl
theorem Try.tm_86 : Try.tm 86 = { kind := 1, size := 1, offs := [], zero := [.nilfn], el := 0, esz := 0, eby := 0, eagg := false, ik := none, eqs := false, ezero := [] } := by kernel_rfl
theorem Try.tm_87 : Try.tm 87 = { kind := 1, size := 1, offs := [], zero := [.nilfn], el := 0, esz := 0, eby := 0, eagg := false, ik := none, eqs := false, ezero := [] } := by kernel_rfl
theorem Try.tm_89 : Try.tm 89 = { kind := 1, size := 1, offs := [], zero := [.nilfn], el := 0, esz := 0, eby := 0, eagg := false, ik := none, eqs := false, ezero := [] } := by kernel_rfl
theorem Try.tm_91 : Try.tm 91 = { kind := 1, size := 1, offs := [], zero := [.nilfn], el := 0, esz := 0, eby := 0, eagg := false, ik := none, eqs := false, ezero := [] } := by kernel_rfl
theorem Try.tm_92 : Try.tm 92 = { kind := 1, size := 1, offs := [], zero := [.nilfn], el := 0, esz := 0, eby := 0, eagg := false, ik := none, eqs := false, ezero := [] } := by kernel_rfl
theorem Try.tm_93 : Try.tm 93 = { kind := 3, size := 1, offs := [], zero := [.imm 0 [] 0], el := 27, esz := 5, eby := 48, eagg := true, ik := none, eqs := false, ezero := [.int .u8 0, .int .i64 0, .int .i64 0, .int .i64 0, .str []] } := by kernel_rfl
theorem Try.tm_94 : Try.tm 94 = { kind := 1, size := 1, offs := [], zero := [.nilfn], el := 0, esz := 0, eby := 0, eagg := false, ik := none, eqs := false, ezero := [] } := by kernel_rfl
theorem Try.tm_95 : Try.tm 95 = { kind := 1, size := 1, offs := [], zero := [.nilfn], el := 0, esz := 0, eby := 0, eagg := false, ik := none, eqs := false, ezero := [] } := by kernel_rfl
theorem Try.tm_96 : Try.tm 96 = { kind := 3, size := 1, offs := [], zero := [.imm 0 [] 0], el := 5, esz := 1, eby := 1, eagg := false, ik := none, eqs := false, ezero := [.int .u8 0] } := by kernel_rfl
theorem Try.tm_98 : Try.tm 98 = { kind := 1, size := 1, offs := [], zero := [.nilfn], el := 0, esz := 0, eby := 0, eagg := false, ik := none, eqs := false, ezero := [] } := by kernel_rfl
theorem Try.tm_99 : Try.tm 99 = { kind := 1, size := 1, offs := [], zero := [.nilfn], el := 0, esz := 0, eby := 0, eagg := false, ik := none, eqs := false, ezero := [] } := by kernel_rfl
theorem Try.tm_101 : Try.tm 101 = { kind := 1, size := 1, offs := [], zero := [.nilfn], el := 0, esz := 0, eby := 0, eagg := false, ik := none, eqs := false, ezero := [] } := by kernel_rfl
theorem Try.tm_103 : Try.tm 103 = { kind := 1, size := 1, offs := [], zero := [.nilfn], el := 0, esz := 0, eby := 0, eagg := false, ik := none, eqs := false, ezero := [] } := by kernel_rfl
theorem Try.tm_104 : Try.tm 104 = { kind := 1, size := 1, offs := [], zero := [.nilfn], el := 0, esz := 0, eby := 0, eagg := false, ik := none, eqs := false, ezero := [] } := by kernel_rfl
theorem Try.tm_105 : Try.tm 105 = { kind := 1, size := 1, offs := [], zero := [.nilptr], el := 0, esz := 0, eby := 0, eagg := false, ik := none, eqs := false, ezero := [] } := by kernel_rfl
theorem Try.tm_106 : Try.tm 106 = { kind := 1, size := 1, offs := [], zero := [.nilfn], el := 0, esz := 0, eby := 0, eagg := false, ik := none, eqs := false, ezero := [] } := by kernel_rfl
theorem Try.tm_107 : Try.tm 107 = { kind := 1, size := 1, offs := [], zero := [.nilfn], el := 0, esz := 0, eby := 0, eagg := false, ik := none, eqs := false, ezero := [] } := by kernel_rfl
theorem Try.tm_108 : Try.tm 108 = { kind := 1, size := 1, offs := [], zero := [.nilfn], el := 0, esz := 0, eby := 0, eagg := false, ik := none, eqs := false, ezero := [] } := by kernel_rfl
theorem Try.tm_109 : Try.tm 109 = { kind := 1, size := 1, offs := [], zero := [.nilfn], el := 0, esz := 0, eby := 0, eagg := false, ik := none, eqs := false, ezero := [] } := by kernel_rfl
theorem Try.tm_110 : Try.tm 110 = { kind := 1, size := 1, offs := [], zero := [.nilfn], el := 0, esz := 0, eby := 0, eagg := false, ik := none, eqs := false, ezero := [] } := by kernel_rfl
theorem Try.tm_111 : Try.tm 111 = { kind := 1, size := 1, offs := [], zero := [.nilfn], el := 0, esz := 0, eby := 0, eagg := false, ik := none, eqs := false, ezero := [] } := by kernel_rfl
theorem Try.tm_112 : Try.tm 112 = { kind := 1, size := 1, offs := [], zero := [.nilfn], el := 0, esz := 0, eby := 0, eagg := false, ik := none, eqs := false, ezero := [] } := by kernel_rfl
theorem Try.tm_113 : Try.tm 113 = { kind := 6, size := 1, offs := [], zero := [.int .u64 0], el := 0, esz := 0, eby := 0, eagg := false, ik := some .u64, eqs := false, ezero := [] } := by kernel_rfl
theorem Try.tm_114 : Try.tm 114 = { kind := 1, size := 1, offs := [], zero := [.nilfn], el := 0, esz := 0, eby := 0, eagg := false, ik := none, eqs := false, ezero := [] } := by kernel_rfl
theorem Try.tm_115 : Try.tm 115 = { kind := 1, size := 1, offs := [], zero := [.nilfn], el := 0, esz := 0, eby := 0, eagg := false, ik := none, eqs := false, ezero := [] } := by kernel_rfl
theorem Try.tm_116 : Try.tm 116 = { kind := 1, size := 1, offs := [], zero := [.nilptr], el := 0, esz := 0, eby := 0, eagg := false, ik := none, eqs := false, ezero := [] } := by kernel_rfl
theorem Try.tm_117 : Try.tm 117 = { kind := 2, size := 2, offs := [(0, 1, false), (1, 1, false)], zero := [.imm 0 [] 0, .bool false], el := 0, esz := 0, eby := 0, eagg := false, ik := none, eqs := false, ezero := [] } := by kernel_rfl
theorem Try.tm_118 : Try.tm 118 = { kind := 2, size := 2, offs := [(0, 1, false), (1, 1, false)], zero := [.imm 0 [] 0, .bool false], el := 0, esz := 0, eby := 0, eagg := false, ik := none, eqs := false, ezero := [] } := by kernel_rfl
theorem Try.tm_119 : Try.tm 119 = { kind := 1, size := 1, offs := [], zero := [.nilfn], el := 0, esz := 0, eby := 0, eagg := false, ik := none, eqs := false, ezero := [] } := by kernel_rfl
theorem Try.tm_120 : Try.tm 120 = { kind := 1, size := 1, offs := [], zero := [.nilfn], el := 0, esz := 0, eby := 0, eagg := false, ik := none, eqs := false, ezero := [] } := by kernel_rfl
theorem Try.tm_121 : Try.tm 121 = { kind := 1, size := 1, offs := [], zero := [.nilfn], el := 0, esz := 0, eby := 0, eagg := false, ik := none, eqs := false, ezero := [] } := by kernel_rfl
theorem Try.tm_123 : Try.tm 123 = { kind := 1, size := 1, offs := [], zero := [.nilfn], el := 0, esz := 0, eby := 0, eagg := false, ik := none, eqs := false, ezero := [] } := by kernel_rfl
theorem Try.tm_124 : Try.tm 124 = { kind := 1, size := 1, offs := [], zero := [.nilfn], el := 0, esz := 0, eby := 0, eagg := false, ik := none, eqs := false, ezero := [] } := by kernel_rfl
theorem Try.tm_125 : Try.tm 125 = { kind := 1, size := 1, offs := [], zero := [.nilfn], el := 0, esz := 0, eby := 0, eagg := false, ik := none, eqs := false, ezero := [] } := by kernel_rfl
theorem Try.tm_126 : Try.tm 126 = { kind := 1, size := 1, offs := [], zero := [.nilfn], el := 0, esz := 0, eby := 0, eagg := false, ik := none, eqs := false, ezero := [] } := by kernel_rfl
theorem Try.tm_127 : Try.tm 127 = { kind := 1, size := 1, offs := [], zero := [.nilfn], el := 0, esz := 0, eby := 0, eagg := false, ik := none, eqs := false, ezero := [] } := by kernel_rfl
theorem Try.tm_128 : Try.tm 128 = { kind := 1, size := 1, offs := [], zero := [.nilfn], el := 0, esz := 0, eby := 0, eagg := false, ik := none, eqs := false, ezero := [] } := by kernel_rfl
theorem Try.tm_129 : Try.tm 129 = { kind := 1, size := 1, offs := [], zero := [.nilfn], el := 0, esz := 0, eby := 0, eagg := false, ik := none, eqs := false, ezero := [] } := by kernel_rfl
theorem Try.tm_130 : Try.tm 130 = { kind := 3, size := 1, offs := [], zero := [.imm 0 [] 0], el := 3, esz := 1, eby := 8, eagg := false, ik := none, eqs := false, ezero := [.int .i64 0] } := by kernel_rfl
theorem Try.tm_132 : Try.tm 132 = { kind := 1, size := 1, offs := [], zero := [.nilfn], el := 0, esz := 0, eby := 0, eagg := false, ik := none, eqs := false, ezero := [] } := by kernel_rfl
theorem Try.tm_134 : Try.tm 134 = { kind := 1, size := 1, offs := [], zero := [.nilfn], el := 0, esz := 0, eby := 0, eagg := false, ik := none, eqs := false, ezero := [] } := by kernel_rfl
theorem Try.tm_135 : Try.tm 135 = { kind := 1, size := 1, offs := [], zero := [.nilfn], el := 0, esz := 0, eby := 0, eagg := false, ik := none, eqs := false, ezero := [] } := by kernel_rfl
theorem Try.tm_136 : Try.tm 136 = { kind := 1, size := 1, offs := [], zero := [.nilfn], el := 0, esz := 0, eby := 0, eagg := false, ik := none, eqs := false, ezero := [] } := by kernel_rfl
theorem Try.tm_137 : Try.tm 137 = { kind := 1, size := 1, offs := [], zero := [.nilfn], el := 0, esz := 0, eby := 0, eagg := false, ik := none, eqs := false, ezero := [] } := by kernel_rfl
theorem Try.tm_138 : Try.tm 138 = { kind := 2, size := 4, offs := [(0, 1, false), (1, 1, false), (2, 1, false), (3, 1, false)], zero := [.nilptr, .nilptr, .nilptr, .str []], el := 0, esz := 0, eby := 0, eagg := false, ik := none, eqs := false, ezero := [] } := by kernel_rfl
theorem Try.tm_139 : Try.tm 139 = { kind := 2, size := 4, offs := [(0, 1, false), (1, 1, false), (2, 1, false), (3, 1, false)], zero := [.nilptr, .nilptr, .nilptr, .str []], el := 0, esz := 0, eby := 0, eagg := false, ik := none, eqs := false, ezero := [] } := by kernel_rfl
theorem Try.tm_140 : Try.tm 140 = { kind := 4, size := 0, offs := [], zero := [], el := 0, esz := 0, eby := 0, eagg := false, ik := none, eqs := false, ezero := [] } := by kernel_rfl
theorem Try.tm_143 : Try.tm 143 = { kind := 6, size := 1, offs := [], zero := [.int .u32 0], el := 0, esz := 0, eby := 0, eagg := false, ik := some .u32, eqs := false, ezero := [] } := by kernel_rfl
theorem Try.tm_144 : Try.tm 144 = { kind := 6, size := 1, offs := [], zero := [.int .u8 0], el := 0, esz := 0, eby := 0, eagg := false, ik := some .u8, eqs := false, ezero := [] } := by kernel_rfl
theorem Try.tm_145 : Try.tm 145 = { kind := 6, size := 1, offs := [], zero := [.int .u8 0], el := 0, esz := 0, eby := 0, eagg := false, ik := some .u8, eqs := false, ezero := [] } := by kernel_rfl
theorem Try.tm_146 : Try.tm 146 = { kind := 1, size := 1, offs := [], zero := [.nilfn], el := 0, esz := 0, eby := 0, eagg := false, ik := none, eqs := false, ezero := [] } := by kernel_rfl
theorem Try.tm_147 : Try.tm 147 = { kind := 1, size := 1, offs := [], zero := [.nilptr], el := 0, esz := 0, eby := 0, eagg := false, ik := none, eqs := false, ezero := [] } := by kernel_rfl
theorem Try.tm_148 : Try.tm 148 = { kind := 6, size := 1, offs := [], zero := [.int .i32 0], el := 0, esz := 0, eby := 0, eagg := false, ik := some .i32, eqs := false, ezero := [] } := by kernel_rfl
theorem Try.tm_149 : Try.tm 149 = { kind := 6, size := 1, offs := [], zero := [.int .i32 0], el := 0, esz := 0, eby := 0, eagg := false, ik := some .i32, eqs := false, ezero := [] } := by kernel_rfl
theorem Try.tm_150 : Try.tm 150 = { kind := 2, size := 11, offs := [(0, 1, false), (1, 1, false), (2, 1, false), (3, 1, false), (4, 1, false), (5, 1, false), (6, 1, false), (7, 1, false), (8, 1, false), (9, 1, false), (10, 1, false)], zero := [.int .u64 0, .int .u64 0, .int .u32 0, .int .u8 0, .int .u8 0, .int .u8 0, .int .u8 0, .nilfn, .nilptr, .int .i32 0, .int .i32 0], el := 0, esz := 0, eby := 0, eagg := false, ik := none, eqs := false, ezero := [] } := by kernel_rfl
theorem Try.tm_151 : Try.tm 151 = { kind := 2, size := 11, offs := [(0, 1, false), (1, 1, false), (2, 1, false), (3, 1, false), (4, 1, false), (5, 1, false), (6, 1, false), (7, 1, false), (8, 1, false), (9, 1, false), (10, 1, false)], zero := [.int .u64 0, .int .u64 0, .int .u32 0, .int .u8 0, .int .u8 0, .int .u8 0, .int .u8 0, .nilfn, .nilptr, .int .i32 0, .int .i32 0], el := 0, esz := 0, eby := 0, eagg := false, ik := none, eqs := false, ezero := [] } := by kernel_rfl
end Go.Proofs
end
section
namespace Go.Proofs
open Go.Tm
theorem Try.S : Seat Try.prog Try.tm := ⟨Try.tmOk, Try.tmMixed⟩
end Go.Proofs
end
section
namespace Go.Proofs
open Go.Tm
set_option linter.unusedVariables false
def m_ballot_node (a0 : Int) : Option Bool :=
 some ((decide (a0 ≥ 0)) && (decide (a0 < 6)))
def m_ballot_Of (a0 : Int) : Option (Int × Int × Int) :=
 Option.bind (if ¬ (((wr .i64 (a0.tdiv 8)) < 1) ∨ ((wr .i64 (a0.tdiv 8)) > 1048576)) then m_ballot_node (a0.tmod 8) else some default) fun v1 =>
 if (((wr .i64 (a0.tdiv 8)) < 1) ∨ ((wr .i64 (a0.tdiv 8)) > 1048576)) ∨ (¬ (v1 = true)) then
 some (0, 0, 50)
 else
 some ((wr .i64 (a0.tdiv 8)), (a0.tmod 8), 0)
def m_ballot_Check (a0 : Int) : Option Int :=
 Option.bind (m_ballot_Of a0) fun v1 =>
 if ¬ (v1.2.2 = 0) then
 some v1.2.2
 else
 some 0
end Go.Proofs
end
section
namespace Go.Proofs
open Go.Tm Go.RowKit Go.WideShapes
set_option maxRecDepth 100000
set_option maxHeartbeats 4000000
set_option linter.unusedSimpArgs false
set_option linter.unusedVariables false
attribute [local go_sem] argVars runE runK isCallV stepE aop opd opdsL opds opdO ev ofVal keep List.any natbeq Bool.false_or Bool.true_or aggEq cond_true cond_false Bool.cond_false_right Bool.cond_true_left beq_true beq_false imp_self implies_true getR getL put St.app effL del nwB blt_dec Nat.lt_irrefl Nat.lt_add_one ble_dec Nat.le_refl Nat.beq_refl roomNZ appendIn capS capK mkZ_zero mkZL_zero zeroEl D.ids D.idsL bin arith sarith binT dpick Tm.part splice fillD oneD loadD storeD srcD sliceD idxOk decide_true gval dstAt D.cells List.map_cons List.map_nil List.take List.drop List.length_map List.append Int.toNat_natCast and_true true_and decide_false List.length_cons List.length_nil List.append_nil List.nil_append Bool.and_true Bool.true_and Bool.not_false Bool.not_true ne_eq not_false_eq_true BEq.rfl List.getElem?_cons_zero List.getElem?_cons_succ List.getElem?_nil Nat.zero_add List.all_cons List.all_nil List.isEmpty_cons List.isEmpty_nil Option.getD_some Option.getD_none List.any_cons List.any_nil List.drop_succ_cons List.drop_zero unfL unf okM okML low3 List.cons_append true_or or_true Nat.zero_mul Nat.zero_le findD_int findD_str  getD_int getD_str getD_bool Option.isSome_map keyD List.length_replicate List.map_replicate setEl List.length_set bytesD_map map_ub mx_len mkZ_one mkZL_one mkM mkML mk1_int mk1_str mk1_bool drop_map take_map take_map_len List.take_length Int.toNat_zero toNat_pred fpOf metIds opIds mvV mvH mvF pickL D.ren D.renL Blk.ren List.map_append List.length_append Bool.not_not Bool.or_not_self Bool.not_or_self Bool.or_true
attribute [local go_sem] Try.tm_1 Try.tm_2 Try.tm_3 Try.tm_4 Try.tm_5 Try.tm_6 Try.tm_7 Try.tm_8 Try.tm_9 Try.tm_10 Try.tm_11 Try.tm_12 Try.tm_13 Try.tm_14 Try.tm_15 Try.tm_16 Try.tm_17 Try.tm_18 Try.tm_19 Try.tm_20 Try.tm_21 Try.tm_22 Try.tm_23 Try.tm_24 Try.tm_25 Try.tm_26 Try.tm_27 Try.tm_28 Try.tm_29 Try.tm_30 Try.tm_32 Try.tm_33 Try.tm_34 Try.tm_35 Try.tm_36 Try.tm_37 Try.tm_39 Try.tm_40 Try.tm_41 Try.tm_43 Try.tm_45 Try.tm_46 Try.tm_47 Try.tm_48 Try.tm_49 Try.tm_50 Try.tm_51 Try.tm_52 Try.tm_53 Try.tm_55 Try.tm_57 Try.tm_58 Try.tm_60 Try.tm_61 Try.tm_63 Try.tm_64 Try.tm_65 Try.tm_66 Try.tm_67 Try.tm_68 Try.tm_69 Try.tm_70 Try.tm_71 Try.tm_72 Try.tm_73 Try.tm_74 Try.tm_76 Try.tm_77 Try.tm_78 Try.tm_79 Try.tm_80 Try.tm_81 Try.tm_82 Try.tm_83 Try.tm_84 Try.tm_85 Try.tm_86 Try.tm_87 Try.tm_89 Try.tm_91 Try.tm_92 Try.tm_93 Try.tm_94 Try.tm_95 Try.tm_96 Try.tm_98 Try.tm_99 Try.tm_101 Try.tm_103 Try.tm_104 Try.tm_105 Try.tm_106 Try.tm_107 Try.tm_108 Try.tm_109 Try.tm_110 Try.tm_111 Try.tm_112 Try.tm_113 Try.tm_114 Try.tm_115 Try.tm_116 Try.tm_117 Try.tm_118 Try.tm_119 Try.tm_120 Try.tm_121 Try.tm_123 Try.tm_124 Try.tm_125 Try.tm_126 Try.tm_127 Try.tm_128 Try.tm_129 Try.tm_130 Try.tm_132 Try.tm_134 Try.tm_135 Try.tm_136 Try.tm_137 Try.tm_138 Try.tm_139 Try.tm_140 Try.tm_143 Try.tm_144 Try.tm_145 Try.tm_146 Try.tm_147 Try.tm_148 Try.tm_149 Try.tm_150 Try.tm_151 dL_str nL_str TVote.d TSeen.d TStable.d TStable.n TRecord.d mk1_dL_str mk1_TVote mk1_TSeen mk1_TStable mk1_TRecord Try.f90 Try.f82 Try.f63 Try.f71
theorem callP_ballot_node (a0 : Int) (r : Bool) (h : m_ballot_node a0 = some r) : CallP Try.prog 90 [.int .i64 a0] (.bool r) := by
 refine callP_intro Try.tmOk 2 Try.func90 rfl (by decide) rfl rfl (Nat.le_of_ble_eq_true rfl) ?_
 intro hwf
 unfold m_ballot_node at h
 refine .seq ?_
 refine .pl Try.S [0] ?_
 refine .seq ?_
 refine .pl Try.S [0] ?_
 have hq := Option.some.inj h
 subst r
 exact .ret ⟨.inr rfl, rsi⟩
theorem callP_ballot_Of (a0 : Int) (r : Int × Int × Int) (h : m_ballot_Of a0 = some r) : CallP Try.prog 82 [.int .i64 a0] (.tuple [.int .i64 r.1, .int .i64 r.2.1, .int .i64 r.2.2]) := by
 refine callP_intro Try.tmOk 2 Try.func82 rfl (by decide) rfl rfl (Nat.le_of_ble_eq_true rfl) ?_
 intro hwf
 unfold m_ballot_Of at h
 refine .seq ?_
 refine .pl Try.S [0] ?_
 refine .seq ?_
 refine .pl Try.S [0] ?_
 refine .seq ?_
 refine .seq ?_
 obtain ⟨v1, hv1, h⟩ := bind_some h
 refine .rg Try.S [2, 3] ?_
 refine .rn 8 ?_
 refine .gcall (r := .bool v1) rfl rfl rfl rfl rfl (fun hg => ⟨[], [.int .i64 (a0.tmod 8)], _, rfl, gd hg, rfl, (callP_ballot_node (a0.tmod 8) v1 (ite_lc hv1 hg))⟩) ?_
 refine .rn 2 ?_
 refine .nil ⟨nofun, ?_⟩
 refine .cond rfl rfl (fun hc1 => ?_) (fun hc1 => ?_)
 ·skip
  replace h := ite_lc h hc1
  refine .seq ?_
  refine .pl Try.S [] ?_
  have hq := Option.some.inj h
  subst r
  exact .ret ⟨.inr rfl, rsi⟩
 ·skip
  replace h := ite_rc h hc1
  refine .skip ?_
  refine .seq ?_
  refine .pl Try.S [2, 3] ?_
  have hq := Option.some.inj h
  subst r
  exact .ret ⟨.inr rfl, rsi⟩
theorem callP_ballot_Check (a0 : Int) (r : Int) (h : m_ballot_Check a0 = some r) : CallP Try.prog 63 [.int .i64 a0] (.int .i64 r) := by
 refine callP_intro Try.tmOk 2 Try.func63 rfl (by decide) rfl rfl (Nat.le_of_ble_eq_true rfl) ?_
 intro hwf
 unfold m_ballot_Check at h
 refine .seq ?_
 refine .pl Try.S [0] ?_
 refine .seq ?_
 refine .seq ?_
 obtain ⟨v1, hv1, h⟩ := bind_some h
 refine .rg Try.S [0] ?_
 refine .rn 1 ?_
 refine .call (r := .tuple [.int .i64 v1.1, .int .i64 v1.2.1, .int .i64 v1.2.2]) rfl rfl rfl rfl rfl rfl (callP_ballot_Of a0 v1 hv1) ?_
 refine .rn 7 ?_
 refine .nil ⟨nofun, ?_⟩
 refine .seq ?_
 refine .pl Try.S [5] ?_
 refine .cond rfl rfl (fun hc1 => ?_) (fun hc1 => ?_)
 ·skip
  replace h := ite_lc h hc1
  refine .seq ?_
  refine .pl Try.S [5] ?_
  have hq := Option.some.inj h
  subst r
  exact .ret ⟨.inr rfl, rsi⟩
 ·skip
  replace h := ite_rc h hc1
  refine .skip ?_
  refine .seq ?_
  refine .pl Try.S [] ?_
  have hq := Option.some.inj h
  subst r
  exact .ret ⟨.inr rfl, rsi⟩
end Go.Proofs
end

/- Texts of the proof. -/
import Derived.Test.YtkananhhhkkpkaaChecked
import Derived.KernelRfl
import Derived.Test.YtkananhhhkkpkaaOrderFinalPf
section
namespace Go.Tm
open Go.RowKit Go.WideShapes
def Goes (lim n0 : Nat) (st s : St) : Prop :=
 ∀ (E : En) (n : Nat) (F : FrS) (a : Act) (w : World) (g : Gh), (∀ id, n0 <= id -> id < lim -> E.nu0 id = true) -> F.on lim st -> Rel E n F a w g -> ∃ F' g', F'.on lim s /\ Rel E n F' a w g'
theorem Goes.mv {lim n0 : Nat} {st s : St} (V H : List Nat) (ps : List (Nat × Nat)) (h1 : (⟨mvV (mvF ps) (pickL V st.vars), mvH (mvF ps) (pickL H st.heap), s.nx⟩ : St) = s) (h2 : n0 <= s.nx) (h3 : s.nx <= lim) (h4 : mvOk ps n0 s.nx (idsV (pickL V st.vars) ++ idsH (pickL H st.heap)) = true) : Goes lim n0 st s :=
 fun _ _ _ _ _ _ hE hF hR => hR.mvTo hF hE ⟨h1, h2, h3, h4⟩
theorem Ok.goes {P : Program} {lim n : Nat} {c : Code} {st s : St} {Q : Exit -> St -> Prop} (h : Goes lim st.nx st s) (k : Ok P lim n c s Q) : Ok P lim n c st Q := by
 intro E F a w g hF hR
 obtain ⟨F', g', hF', hR'⟩ := h E n F a w g (fun id h1 h2 => hR.nu id (hF.2.2 id h1 h2)) hF hR
 exact k E F' a w g' hF' hR'
def cutQ {ι : Type} (lim n0 : Nat) (M : ι -> St) (Pr : ι -> Prop) (Q : Exit -> St -> Prop) : Exit -> St -> Prop := fun e s => match e with | .normal => ∃ j, Goes lim n0 s (M j) /\ Pr j | e => Q e s
theorem Ok.seqM {P : Program} {lim n : Nat} {x y : Code} {st : St} {Q : Exit -> St -> Prop} {ι : Type} (n0 : Nat) (M : ι -> St) (Pr : ι -> Prop) (hn : st.nx <= n0) (h1 : Ok P lim n x st (cutQ lim n0 M Pr Q)) (h2 : ∀ j, Pr j -> Ok P lim n y (M j) Q) : Ok P lim n (.seq x y) st Q := by
 intro E F a w g hF hR
 have hE : ∀ id, n0 <= id -> id < lim -> E.nu0 id = true := fun id h1 h2 => hR.nu id (hF.2.2 id (Nat.le_trans hn h1) h2)
 refine wp_seq (wp_mono (h1 E F a w g hF hR) ?_)
 rintro e a' w' ⟨st', F', g', hq, hF', hR'⟩
 cases e with
 | normal =>
  obtain ⟨j, h3, h4⟩ := hq
  obtain ⟨F2, g2, hF2, hR2⟩ := h3 E n F' a' w' g' hE hF' hR'
  exact h2 j h4 E F2 a' w' g2 hF2 hR2
 | exit id => exact ⟨st', F', g', hq, hF', hR'⟩
 | goto l => exact ⟨st', F', g', hq, hF', hR'⟩
 | ret => exact ⟨st', F', g', hq, hF', hR'⟩
 | panic ch => exact ⟨st', F', g', hq, hF', hR'⟩
 | outgrown => exact ⟨st', F', g', hq, hF', hR'⟩
def loopQG {ι : Type} (lim n0 : Nat) (S : ι -> St) (Pr : ι -> Prop) (μ : ι -> Nat) (i : ι) (Q : Exit -> St -> Prop) : Exit -> St -> Prop := fun e st' => match e with | .normal => ∃ j, Goes lim n0 st' (S j) /\ Pr j /\ μ j < μ i | e => Q e st'
theorem Ok.loopG {P : Program} {lim n : Nat} {c : Code} {st : St} {Q : Exit -> St -> Prop} {ι : Type} (n0 : Nat) (S : ι -> St) (Pr : ι -> Prop) (μ : ι -> Nat) (i0 : ι) (hn : st.nx <= n0) (hs : Goes lim n0 st (S i0)) (h0 : Pr i0)
  (round : ∀ i, Pr i -> Ok P lim n c (S i) (loopQG lim n0 S Pr μ i Q)) : Ok P lim n (.loop c) st Q := by
 intro E F a w g hF hR b k cs
 have hE : ∀ id, n0 <= id -> id < lim -> E.nu0 id = true := fun id h1 h2 => hR.nu id (hF.2.2 id (Nat.le_trans hn h1) h2)
 have key : ∀ m i, μ i = m -> Pr i -> ∀ (F : FrS) (a : Act) (w : World) (g : Gh), F.on lim (S i) -> Rel E n F a w g -> ∃ e a' w', (∃ st' F' g', Q e st' /\ F'.on lim st' /\ Rel E n F' a' w' g') /\ Arrives P (lone (b.at a (.code c :: .inLoop c :: k)) cs w) b k cs e a' w' := by
  intro m
  induction m using Nat.strongRecOn with
  | _ m ih =>
   intro i hm hI F a w g hF hR
   obtain ⟨e, a₁, w₁, ⟨st', F', g', hq, hF', hrel⟩, harr⟩ := round i hI E F a w g hF hR b (.inLoop c :: k) cs
   cases e with
   | normal =>
    obtain ⟨j, h1, h2, h3⟩ := hq
    obtain ⟨F2, g2, hF2, hR2⟩ := h1 E n F' a₁ w₁ g' hE hF' hrel
    obtain ⟨e₂, a₂, w₂, hq₂, harr₂⟩ := ih (μ j) (hm ▸ h3) j rfl h2 F2 a₁ w₁ g2 hF2 hR2
    exact ⟨e₂, a₂, w₂, hq₂, .of_steps (Steps.trans harr (.one step_inLoop)) harr₂⟩
   | exit id => exact ⟨_, a₁, w₁, ⟨st', F', g', hq, hF', hrel⟩, .pass (x := .inLoop c) rfl (fun _ _ => .inl (by simp)) harr⟩
   | goto l => exact ⟨_, a₁, w₁, ⟨st', F', g', hq, hF', hrel⟩, .pass (x := .inLoop c) rfl (fun _ _ => .inl (by simp)) harr⟩
   | ret => exact ⟨_, a₁, w₁, ⟨st', F', g', hq, hF', hrel⟩, .pass (x := .inLoop c) rfl (fun _ _ => .inl (by simp)) harr⟩
   | panic ch => exact ⟨_, a₁, w₁, ⟨st', F', g', hq, hF', hrel⟩, .pass (x := .inLoop c) rfl (fun _ _ => .inl (by simp)) harr⟩
   | outgrown => exact ⟨_, a₁, w₁, ⟨st', F', g', hq, hF', hrel⟩, .pass (x := .inLoop c) rfl (fun _ _ => .inl (by simp)) harr⟩
 obtain ⟨F1, g1, hF1, hR1⟩ := hs E n F a w g hE hF hR
 obtain ⟨e, a', w', hq, harr⟩ := key _ i0 rfl h0 F1 a w g1 hF1 hR1
 exact ⟨e, a', w', hq, .of_steps (.one step_loop) harr⟩
theorem bind_some {α β : Type} {o : Option α} {f : α -> Option β} {r : β} (h : o.bind f = some r) : ∃ x, o = some x /\ f x = some r := by
 cases o with
 | none => cases h
 | some x => exact ⟨x, rfl, h⟩
theorem ite_l {α : Type} {c : Prop} [Decidable c] {a b r : α} (h : (if c then a else b) = r) (hc : c) : a = r := by rw [if_pos hc] at h; exact h
theorem ite_r {α : Type} {c : Prop} [Decidable c] {a b r : α} (h : (if c then a else b) = r) (hc : ¬ c) : b = r := by rw [if_neg hc] at h; exact h
theorem zba {α : Type} {c : Prop} [Decidable c] {a : Option α} {r : α} (h : (if c then a else none) = some r) : c /\ a = some r := by
 by_cases hc : c
 ·exact ⟨hc, ite_l h hc⟩
 ·rw [if_neg hc] at h; cases h
theorem zd4 {i n : Nat} (h : i < n) (hn : (n : Int) <= 9223372036854775807) : wr .i64 ((i : Int) + 1) = ((i + 1 : Nat) : Int) :=
 wr_eq _ _ (by show (-9223372036854775808 : Int) <= _; omega) (by show _ <= (9223372036854775807 : Int); omega)
theorem zh8 {α : Type} [Inhabited α] (f : α -> D) (l : List α) (i : Nat) (h : i < l.length) : nth (l.map f) i = f (l.getD i default) := by
 rw [zcc f l i h]; simp [h]
theorem zcj {α : Type} [Inhabited α] (f : α -> D) (l : List α) (i : Int) (h : 0 <= i /\ i < (l.length : Int)) : nth (l.map f) i.toNat = f (l.getD i.toNat default) :=
 zh8 f l _ (by omega)
theorem Ok.wf {P : Program} {lim n : Nat} {c : Code} {st : St} {Q : Exit -> St -> Prop} (t : Nat) (d : D) (hd : getR st.vars t = d) (h : Tm.wf d -> Ok P lim n c st Q) : Ok P lim n c st Q := by
 intro E F a w g hF hR
 refine h ?_ E F a w g hF hR
 have := hR.rd t
 rw [hF.1, hd] at this
 exact rep_wf _ _ this
structure Pl {α : Type} (f : α -> D) : Prop where
 un : ∀ x, unf (f x) = f x
 ids : ∀ x, (f x).ids = []
 ok : ∀ q, q 0 = true -> ∀ x, okM q (f x) = true
theorem pl_int (k : IntKind) : Pl (D.int k) := ⟨fun _ => rfl, fun _ => rfl, fun _ _ _ => rfl⟩
theorem pl_i64 : Pl (D.int .i64) := pl_int _
section
variable {α : Type} {f : α -> D} (hf : Pl f)
include hf
theorem Pl.unfL (l : List α) : Tm.unfL (l.map f) = l.map f := by
 induction l with
 | nil => rfl
 | cons x l ih => simp only [List.map_cons, Tm.unfL, hf.un, ih]
theorem Pl.idsL (l : List α) : D.idsL (l.map f) = [] := by
 induction l with
 | nil => rfl
 | cons x l ih => simp only [List.map_cons, D.idsL, hf.ids, ih, List.nil_append]
theorem Pl.okML (q : Nat -> Bool) (h : q 0 = true) (l : List α) : Tm.okML q (l.map f) = true := by
 induction l with
 | nil => rfl
 | cons x l ih => simp only [List.map_cons, Tm.okML, hf.ok q h, ih, Bool.and_self]
theorem zi3 {hp : Nat -> Option Blk} {id s e n : Nat} {oc : Option Nat} {l : List α} (h : hp id = some (.arr e s true (l.map f))) (hn : n = l.length) : lend hp (.ref id s 0 n oc) = (.imm s (l.map f) 4, true) := by
 subst hn
 have ht : (l.map f).take l.length = l.map f := List.take_of_length_le (by simp)
 simp only [lend, h, List.drop_zero, ht, hf.unfL, hf.okML low3 rfl, hf.idsL, List.length_map, Nat.zero_add, Nat.beq_refl, List.isEmpty_nil, Bool.and_true, Bool.true_and, Prod.mk.injEq, true_and]
 exact Nat.ble_eq_true_of_le (Nat.le_refl _)
end
theorem zgl {hp : Nat -> Option Blk} : lends hp [] = ([], true) := rfl
theorem za0 {hp : Nat -> Option Blk} {d d' : D} {l l' : List D} (h : lend hp d = (d', true)) (hl : lends hp l = (l', true)) : lends hp (d :: l) = (d' :: l', true) := by
 simp only [lends, h, hl, Bool.and_self]
def WkG (d d' : D) : Prop := ∀ (fr : Nat) (w : World) (g : Gh) (hp : Nat -> Option Blk) (nu : Nat -> Bool), Mem fr w g hp nu -> ∀ v, rep (cx w g hp) d v -> rep (cx w g hp) d' v
theorem WkG.of {d d' : D} (h : Wk d d') : WkG d d' := fun _ _ _ _ _ _ _ hv => h _ _ hv
theorem WkG.unk (id s off len : Nat) (oc : Option Nat) : WkG (.ref id s off len oc) (.ref id s off len (some uC)) := .of (Wk.unk _ _ _ _ _)
theorem WkG.nil4 (s s' c : Nat) (_hc : c / 8 = 0) : WkG (.imm s [] c) (.imm s' [] 4) := .of fun C v h => rep_nil_any rfl (by omega) C v h
theorem WkG.nil12 (s s' c : Nat) (_hc : c = 0 \/ c = 12) : WkG (.imm s [] c) (.imm s' [] 12) := by
 intro fr w g hp nu _ v h
 simp only [rep] at h ⊢
 obtain ⟨a, cap, rfl, h1, h2, _, _, _, h6, _⟩ := h
 exact ⟨a, cap, rfl, h1, h2, by simp, by simp, by simp, h6, fun _ => rfl, .inl trivial⟩
theorem WkG.own0 (id s s0 k : Nat) (hk : k % 8 <= 1) : WkG (.imm s0 [] k) (.ref id s 0 0 (some uC)) := by
 intro fr w g hp nu _ v h
 simp only [rep] at h ⊢
 obtain ⟨ad, cap, rfl, k1, k2, k3, k4, k5, k6, _⟩ := h
 have hc : cap = 0 := k5 (.inl hk)
 subst hc
 exact ⟨rfl, ad, 0, rfl, by simp, by simp, by simp, ⟨(fun c h hk => by cases h; cases hk), (fun h => by cases h)⟩, .inl rfl⟩
theorem WkG.new4 (s : Nat) (l : List D) {c : Nat} (hc : c / 8 = 1) : WkG (.imm s l c) (.imm s l 4) := by
 intro fr w g hp nu hM v h
 simp only [rep, hc] at h ⊢
 obtain ⟨a, cap, rfl, h1, h2, _, _, _, h6, _, h7⟩ := h
 refine ⟨a, cap, rfl, h1, h2, by simp, by simp, by simp, h6, by simp, ?_⟩
 rcases h7 with h7 | h7
 ·exact .inl h7
 right
 intro Z hZ
 obtain ⟨Z1, k1, k2, _⟩ := hM.zs.z1
 obtain ⟨a0, ha, hs, hm, hz, hb, he⟩ := h7 Z1 (by simpa [Cx.zone, cx] using k1)
 have : g.Z = Z := by simpa [Cx.zone, cx] using hZ
 subst this
 exact ⟨a0, ha, hs, hm, (k2 _ hz).2, hb, zdx (C := (cx w g hp).at Z1) (C' := (cx w g hp).at g.Z) (Cx.Le.inner (C := cx w g hp) (C' := cx w g hp) (fun _ _ => rfl) fun b e1 e2 _ => ⟨e1, (k2 b e2).2, rfl⟩) _ _ _ _ rfl he⟩
theorem Goes.wk {lim n0 : Nat} {st s : St} (t : Nat) (d d' : D) (hd : getR st.vars t = d) (hw : WkG d d') (h : Goes lim n0 ⟨put st.vars t d', st.heap, st.nx⟩ s) : Goes lim n0 st s := by
 intro E n F a w g hE hF hR
 obtain ⟨h1, h2, h3⟩ := hF
 refine h E n ⟨getR (put st.vars t d'), F.hp, F.nu⟩ a w g hE ⟨rfl, h2, h3⟩ ⟨hR.sz, hR.df, fun u => ?_, hR.mem, hR.base, hR.keep, hR.gz, hR.gs, hR.nu⟩
 have hu := hR.rd u
 show rep (cx w g F.hp) (getR (put st.vars t d') u) _
 rw [h1] at hu
 have hg : getR (put st.vars t d') u = if t = u then d' else getR st.vars u := by
  unfold getR
  rw [zgc]
  by_cases hh : t = u <;> simp [hh]
 rw [hg]
 by_cases htu : t = u
 ·subst htu
  rw [if_pos rfl]
  rw [hd] at hu
  exact hw _ _ _ _ _ hR.mem _ hu
 ·rw [if_neg htu]; exact hu
theorem Goes.new0 {lim n0 : Nat} {st s : St} (s' : Nat) (e : TypeId) (hn : st.nx < lim) (h : Goes lim n0 ⟨st.vars, put st.heap st.nx (.arr e s' true []), st.nx + 1⟩ s) : Goes lim n0 st s := by
 intro E n F a w g hE hF hR
 obtain ⟨h1, h2, h3⟩ := hF
 have hnu : F.nu st.nx = true := h3 st.nx (Nat.le_refl _) hn
 obtain ⟨g1, _⟩ := Rel.made hR (m := st.nx) (blk := .arr e s' true []) (loc := none) (kl := none) (w' := w) hnu ((Keep.refl _ w).mono fun _ _ h => h) (by rintro b o h; cases h) (by
  intro C hC hle hrf hσ
  exact .inl ⟨rfl, hσ⟩)
 have hp : effH F.hp ((st.nx, some (.arr e s' true [])) :: kill none) = getL (put st.heap st.nx (.arr e s' true [])) := by
  funext i
  rw [zgc, h2]
  simp only [effH, kill, getL]
  by_cases hi : st.nx = i
  ·subst hi; simp
  ·simp [zbs hi, hi]
 refine h E n ⟨F.rd, (F.eff ((st.nx, some (.arr e s' true [])) :: kill none) (st.nx, st.nx + 1)).hp, (F.eff ((st.nx, some (.arr e s' true [])) :: kill none) (st.nx, st.nx + 1)).nu⟩ a w (setσ g st.nx none) hE ⟨h1, hp, fun id k1 k2 => ?_⟩ ⟨g1.sz, g1.df, g1.rd, g1.mem, g1.base, g1.keep, g1.gz, g1.gs, g1.nu⟩
 have k1 : st.nx + 1 <= id := k1
 have := h3 id (by omega) k2
 simp only [FrS.eff, effN, this, Bool.true_and, Bool.not_eq_true', Bool.and_eq_false_iff, decide_eq_false_iff_not]
 right
 omega
theorem Ok.ends {P : Program} {lim n : Nat} {c : Code} {st : St} {Q : Exit -> St -> Prop} (n0 : Nat) (hn : st.nx <= n0) (h : Ok P lim n c st fun e s => ∃ s', Goes lim n0 s s' /\ Q e s') : Ok P lim n c st Q := by
 intro E F a w g hF hR
 have hE : ∀ id, n0 <= id -> id < lim -> E.nu0 id = true := fun id h1 h2 => hR.nu id (hF.2.2 id (Nat.le_trans hn h1) h2)
 refine wp_mono (h E F a w g hF hR) ?_
 rintro e a' w' ⟨st', F', g', ⟨s', h1, h2⟩, hF', hR'⟩
 obtain ⟨F2, g2, hF2, hR2⟩ := h1 E n F' a' w' g' hE hF' hR'
 exact ⟨s', F2, g2, h2, hF2, hR2⟩
theorem lend_agg {hp : Nat -> Option Blk} {l l' : List D} (h : lends hp l = (l', true)) : lend hp (.agg l) = (.agg l', true) := by simp only [lend, h]
theorem lend2_of {hp : Nat -> Option Blk} {d d' : D} (h : lend hp d = (d', true)) (hd : match d with | .ptr _ _ => False | .fn _ _ => False | _ => True) : lend2 hp d = (d', true) := by
 cases d <;> first | exact hd.elim | (simp only [lend2]; exact h)
theorem zhs {hp : Nat -> Option Blk} {id off : Nat} {cells cells' : List D} (hb : hp id = some (.box cells)) (h : lends hp cells = (cells', true)) : lend2 hp (.ptr id off) = (.iptr 0 (cells'.drop off), true) := by simp only [lend2, hb, h]
theorem zj2 {hp : Nat -> Option Blk} {f : Fn} {l l' : List D} (h : zd1 hp l = (l', true)) : lend2 hp (.fn f l) = (.fn f l', true) := by simp only [lend2, h]
theorem zau {hp : Nat -> Option Blk} : zd1 hp [] = ([], true) := rfl
theorem za5 {hp : Nat -> Option Blk} {d d' : D} {l l' : List D} (h : lend2 hp d = (d', true)) (hl : zd1 hp l = (l', true)) : zd1 hp (d :: l) = (d' :: l', true) := by
 simp only [zd1, h, hl, Bool.and_self]
theorem frz_ref {α : Type} {f : α -> D} (hf : Pl f) (hk : ∀ l : List α, okML new1 (l.map f) = true) {hp : Nat -> Option Blk} {id s e n : Nat} {oc : Option Nat} {l : List α} (h : hp id = some (.arr e s true (l.map f))) (hn : n = l.length) : frz hp (.ref id s 0 n oc) = (.imm s (l.map f) 12, true) := by
 subst hn
 have ht : (l.map f).take l.length = l.map f := List.take_of_length_le (by simp)
 simp only [frz, h, List.drop_zero, ht, hf.unfL, hk, hf.idsL, List.length_map, Nat.zero_add, Nat.beq_refl, List.isEmpty_nil, Bool.and_true, Bool.true_and, Prod.mk.injEq, true_and]
 exact Nat.ble_eq_true_of_le (Nat.le_refl _)
theorem frz_agg {hp : Nat -> Option Blk} {l l' : List D} (h : frzs hp l = (l', true)) : frz hp (.agg l) = (.agg l', true) := by simp only [frz, h]
theorem zmh {hp : Nat -> Option Blk} {l l' : List D} (h : frzs hp l = (l', true)) : frz hp (.tuple l) = (.tuple l', true) := by simp only [frz, h]
theorem zhb {hp : Nat -> Option Blk} : frzs hp [] = ([], true) := rfl
theorem zbb {hp : Nat -> Option Blk} {d d' : D} {l l' : List D} (h : frz hp d = (d', true)) (hl : frzs hp l = (l', true)) : frzs hp (d :: l) = (d' :: l', true) := by
 simp only [frzs, h, hl, Bool.and_self]
structure Pl0 {α : Type} (f : α -> D) : Prop extends Pl f where
 no : ∀ q x, okM q (f x) = true
theorem Pl0.okML {α : Type} {f : α -> D} (hf : Pl0 f) (q : Nat -> Bool) (l : List α) : Tm.okML q (l.map f) = true := by
 induction l with
 | nil => rfl
 | cons x l ih => simp only [List.map_cons, Tm.okML, hf.no q, ih, Bool.and_self]
theorem pl0_i64 : Pl0 (D.int .i64) := ⟨pl_i64, fun _ _ => rfl⟩
theorem zlm {α : Type} {f : α -> D} (hf : Pl0 f) {hp : Nat -> Option Blk} {id s e n : Nat} {oc : Option Nat} {l : List α} (h : hp id = some (.arr e s true (l.map f))) (hn : n = l.length) : frz hp (.ref id s 0 n oc) = (.imm s (l.map f) 12, true) := frz_ref hf.toPl (hf.okML new1) h hn
theorem zfn {α : Type} {f : α -> D} (hf : Pl0 f) (e s : Nat) (l : List α) : newB (some (.arr e s true (l.map f))) = true := by simp only [newB, hf.okML, Bool.and_self]
theorem zdf {nw : Nat × Nat} {i : Nat} {b : Option Blk} {r : List (Nat × Option Blk)} (h1 : Nat.ble nw.1 i = true) (h2 : Nat.blt i nw.2 = true) (h3 : newB b = true) (h4 : newE nw r = true) : newE nw ((i, b) :: r) = true := by simp only [newE, h1, h2, h3, h4, Bool.and_self]
theorem zf6 {nw : Nat × Nat} : newE nw [] = true := rfl
theorem zee {P : Program} {K : FuncId} {args : List D} {r : D} {eff : List (Nat × Option Blk)} {m : Nat} (n : Nat) (hn : m <= n) (h : CallH P K args [] r eff (0, m)) : CallH P K (D.renL (bsw 0 n m) args) [] (r.ren (bsw 0 n m)) (renE (bsw 0 n m) eff) (n, n + m) := by
 refine zly (π := bsw 0 n m) (bsw_bsw (by omega)) (n, n + m) (fun id h1 h2 => ?_) h
 have h2 : id < m := h2
 have e : (Nat.ble 0 id && Nat.blt id (0 + m)) = true := by
  simp only [Bool.and_eq_true]
  exact ⟨Nat.ble_eq_true_of_le (Nat.zero_le _), Nat.ble_eq_true_of_le (by omega)⟩
 simp only [bsw, e, cond_true]
 omega
theorem Ok.wfb {P : Program} {lim n : Nat} {c : Code} {st : St} {Q : Exit -> St -> Prop} (id : Nat) (cells : List D) (hd : getL st.heap id = some (.box cells)) (h : wfL cells -> Ok P lim n c st Q) : Ok P lim n c st Q := by
 intro E F a w g hF hR
 refine h ?_ E F a w g hF hR
 obtain ⟨b, cs, T, _, _, e3, _⟩ := hR.mem.hd id (.box cells) (by rw [hF.2.1]; exact hd)
 exact znu _ _ e3
theorem Ok.nil4 {P : Program} {lim n : Nat} {c : Code} {st : St} {Q : Exit -> St -> Prop} (t s : Nat) (l : List D) (hd : getR st.vars t = .imm s l 4) (h1 : Ok P lim n c ⟨put st.vars t (.imm s l 2), st.heap, st.nx⟩ Q) (h2 : l = [] -> Ok P lim n c ⟨put st.vars t (.imm s l 0), st.heap, st.nx⟩ Q) : Ok P lim n c st Q := by
 intro E F a w g hF hR
 have hr := hR.rd t
 rw [hF.1, hd] at hr
 have key : ∀ d', rep (cx w g F.hp) d' (a.eval (.tmp t)) -> Rel E n ⟨getR (put st.vars t d'), F.hp, F.nu⟩ a w g := by
  intro d' hd'
  refine ⟨hR.sz, hR.df, fun u => ?_, hR.mem, hR.base, hR.keep, hR.gz, hR.gs, hR.nu⟩
  have hu := hR.rd u
  show rep (cx w g F.hp) (getR (put st.vars t d') u) _
  rw [hF.1] at hu
  have hg : getR (put st.vars t d') u = if t = u then d' else getR st.vars u := by
   unfold getR
   rw [zgc]
   by_cases hh : t = u <;> simp [hh]
  rw [hg]
  by_cases htu : t = u
  ·subst htu
   rw [if_pos rfl]
   exact hd'
  ·rw [if_neg htu]; exact hu
 rcases rep_nil_split _ _ hr with h | ⟨hl, h⟩
 ·exact h1 E ⟨getR (put st.vars t (.imm s l 2)), F.hp, F.nu⟩ a w g ⟨rfl, hF.2.1, hF.2.2⟩ (key _ h)
 ·exact h2 hl E ⟨getR (put st.vars t (.imm s l 0)), F.hp, F.nu⟩ a w g ⟨rfl, hF.2.1, hF.2.2⟩ (key _ h)
theorem zd5 {i n : Nat} (h : i < n) (hn : (n : Int) <= 9223372036854775807) : wr .i64 ((i : Int) - 1) = (i : Int) - 1 :=
 wr_eq _ _ (by show (-9223372036854775808 : Int) <= _; omega) (by show _ <= (9223372036854775807 : Int); omega)
theorem zfe (i : Nat) : ((i : Int) - 1).toNat = i - 1 := by omega
theorem nth_or {α : Type} [Inhabited α] (f : α -> D) (l : List α) (n : Nat) : nth (l.map f) n = f (l.getD n default) \/ nth (l.map f) n = .undef := by
 by_cases h : n < l.length
 ·exact .inl (zh8 f l n h)
 ·right
  unfold nth
  simp [Nat.le_of_not_lt h]
mutual
theorem zjl (f : Nat -> Nat) : ∀ d : D, d.ids = [] -> d.ren f = d
 | .agg l, h => by simp only [D.ren, zif f l (by simpa only [D.ids] using h)]
 | .tuple l, h => by simp only [D.ren, zif f l (by simpa only [D.ids] using h)]
 | .fn g l, h => by simp only [D.ren, zif f l (by simpa only [D.ids] using h)]
 | .iface t d, h => by simp only [D.ren, zjl f d (by simpa only [D.ids] using h)]
 | .when c d, h => by simp only [D.ren, zjl f d (by simpa only [D.ids] using h)]
 | .ref _ _ _ _ _, h | .ptr _ _, h | .eptr _ _ _ _, h | .mref _, h => by simp [D.ids] at h
 | .bool _, _ | .int _ _, _ | .str _, _ | .imm _ _ _, _ | .iptr _ _, _ | .nilptr, _ | .nilfn, _ | .nilIface, _ | .nilmap, _ | .undef, _ => by simp only [D.ren]
theorem zif (f : Nat -> Nat) : ∀ l : List D, D.idsL l = [] -> D.renL f l = l
 | [], _ => by simp only [D.renL]
 | d :: ds, h => by
  simp only [D.idsL, List.append_eq_nil_iff] at h
  simp only [D.renL, zjl f d h.1, zif f ds h.2]
end
theorem zb8 {l : List D} (h : ∀ hp, lends hp l = (l, true)) : D.idsL l = [] := by
 have := (zg3 (hp := fun _ => none) l (by rw [h])).2.1
 rwa [h] at this
theorem za6 {l : List D} (h : ∀ hp, lends hp l = (l, true)) (f : Nat -> Nat) : D.renL f l = l := zif f l (zb8 h)
theorem zih {α : Type} (l : List α) : l = [] \/ ∃ y ys, l = y :: ys := by
 cases l with
 | nil => exact .inl rfl
 | cons y ys => exact .inr ⟨y, ys, rfl⟩
theorem zhu {hp : Nat -> Option Blk} {nid el esz eby s c : Nat} {xs : List D} {px vx : Bool} (h : xs = []) : zaj hp nid el esz eby (.imm s [] c) xs px vx = some ⟨.imm esz [] c, vx, [], (0, 0), []⟩ := by subst h; rfl
theorem zgw {hp : Nat -> Option Blk} {nid el esz eby s c : Nat} {xs : List D} {px vx : Bool} (h : xs ≠ []) : zaj hp nid el esz eby (.imm s [] c) xs px vx = some ⟨.ref nid esz 0 xs.length none, vx && (Nat.ble (c % 8) 1 || Nat.beq (c % 8) 3) && decide (xs.length * eby <= 140737488355328), [(nid, some (.arr el esz px xs))], (nid, nid + 1), []⟩ := by
 cases xs with
 | nil => exact absurd rfl h
 | cons x xs => rfl
theorem zgd {α β : Type} (f : α -> β) (l : List α) (i : Nat) : (l.map f).drop i = (l.drop i).map f := List.map_drop.symm
theorem zfl {α β : Type} (f : α -> β) (l : List α) (i : Nat) : (l.map f).take i = (l.take i).map f := List.map_take.symm
theorem ze4 {α β : Type} (f : α -> β) (l : List α) : (l.map f).take l.length = l.map f := by rw [zfl, List.take_length]
theorem Wk.nil4 (s s' c : Nat) (_hc : c / 8 = 0) : Wk (.imm s [] c) (.imm s' [] 4) := fun C v h => rep_nil_any rfl (by omega) C v h
theorem zbd {ops : Array Oper} {fps : Nat -> FP} (h : ((List.range ops.size).all fun i => (List.range i).all fun j => anc ops ops.size i j || okFP (fps j) (fps i)) = true) : zkd ops fps = true := by
 unfold zkd
 rw [<- h]
 congr 1
 funext i
 congr 1
 funext j
 rw [Bool.or_comm]
end Go.Tm
end
section
namespace Go.Tm
structure Seat (P : Program) (tab : Nat -> TI) : Prop where
 tm : TabOk P tab
 mixed : P.follows .mixedOrders = true
section
variable {P : Program} {tab : Nat -> TI} {lim n : Nat}
theorem Ok.pl {id : Nat} {ops : Array Oper} {st st' : St} {vc : Bool} {acc : List FP} {Q : Exit -> St -> Prop} (S : Seat P tab) (V : List Nat) (hQ : Q .normal st') (hok : regOk n ops false = true := by decide +kernel)
  (h : Comes (runE tab true false ops.toList ops.toList ⟨keep V st.vars, st.heap, st.nx⟩ true []) st' vc acc [] := by intro q hq; simp only [go_sem, Nat.reduceSub, Int.reduceEq, Nat.reduceLT, Nat.reduceDiv, Nat.reduceAdd, Nat.reduceBEq, Nat.reduceLeDiff, reduceCtorEq, Nat.reduceEqDiff, Nat.reduceMod, Nat.reduceMul, zaj]; exact hq)
  (hv : vc = true := by first | rfl | (simp only [go_sem, Nat.reduceLeDiff]; done) | (simp only [go_sem, Nat.reduceLeDiff]; rfl) | (simp; done) | (simp [oneD] <;> omega) | (simp_all; done) | (simp_all [oneD] <;> omega)) (hlim : st'.nx <= lim := by first | exact Nat.le_refl _ | exact Nat.le_of_ble_eq_true rfl | (dsimp only; omega) | (simp <;> omega)) : Ok P lim n (.region id ops false) st Q :=
 .plain S.tm S.mixed V hok h hv hlim hQ
theorem Ok.plx {X : Prop} {id : Nat} {ops : Array Oper} {st st' : St} {vc : Bool} {acc : List FP} {Q : Exit -> St -> Prop} (S : Seat P tab) (x : X) (V : List Nat) (hQ : Q .normal st') (hok : regOk n ops false = true := by decide +kernel)
  (h : X -> Comes (runE tab true false ops.toList ops.toList ⟨keep V st.vars, st.heap, st.nx⟩ true []) st' vc acc [] := by intro x q hq; simp only [go_sem, Nat.reduceSub, Int.reduceEq, Nat.reduceLT, Nat.reduceDiv, Nat.reduceAdd, Nat.reduceBEq, Nat.reduceLeDiff, reduceCtorEq, Nat.reduceEqDiff, Nat.reduceMod, Nat.reduceMul, zaj, x]; exact hq)
  (hv : vc = true := by first | rfl | (simp only [go_sem, Nat.reduceLeDiff]; done) | (simp only [go_sem, Nat.reduceLeDiff]; rfl) | (simp; done) | (simp [oneD] <;> omega) | (simp_all; done) | (simp_all [oneD] <;> omega)) (hlim : st'.nx <= lim := by first | exact Nat.le_refl _ | exact Nat.le_of_ble_eq_true rfl | (dsimp only; omega) | (simp <;> omega)) : Ok P lim n (.region id ops false) st Q :=
 .plain S.tm S.mixed V hok (h x) hv hlim hQ
theorem Ok.dr {id : Nat} {ops : Array Oper} {st st' : St} {vc : Bool} {acc : List FP} {Q : Exit -> St -> Prop} (S : Seat P tab) (V : List Nat) (hQ : Q .normal st') (hok : regOk n ops true = true := by decide +kernel)
  (h : Comes (runE tab true true ops.toList ops.toList ⟨keep V st.vars, st.heap, st.nx⟩ true []) st' vc acc [] := by intro q hq; simp only [go_sem, Nat.reduceSub, Int.reduceEq, Nat.reduceLT, Nat.reduceDiv, Nat.reduceAdd, Nat.reduceBEq, Nat.reduceLeDiff, reduceCtorEq, Nat.reduceEqDiff, Nat.reduceMod, Nat.reduceMul, zaj]; exact hq)
  (hs : zkd ops (fun i => (acc[i]?).getD zi6) = true := by exact zbd (by kernel_rfl))
  (hv : vc = true := by first | rfl | (simp only [go_sem, Nat.reduceLeDiff]; done) | (simp only [go_sem, Nat.reduceLeDiff]; rfl) | (simp; done) | (simp [oneD] <;> omega) | (simp_all; done) | (simp_all [oneD] <;> omega)) (hlim : st'.nx <= lim := by first | exact Nat.le_refl _ | exact Nat.le_of_ble_eq_true rfl | (dsimp only; omega) | (simp <;> omega)) : Ok P lim n (.region id ops true) st Q :=
 .drawn S.tm S.mixed V hok h hs hv hlim hQ
theorem Ok.drx {X : Prop} {id : Nat} {ops : Array Oper} {st st' : St} {vc : Bool} {acc : List FP} {Q : Exit -> St -> Prop} (S : Seat P tab) (x : X) (V : List Nat) (hQ : Q .normal st') (hok : regOk n ops true = true := by decide +kernel)
  (h : X -> Comes (runE tab true true ops.toList ops.toList ⟨keep V st.vars, st.heap, st.nx⟩ true []) st' vc acc [] := by intro x q hq; simp only [go_sem, Nat.reduceSub, Int.reduceEq, Nat.reduceLT, Nat.reduceDiv, Nat.reduceAdd, Nat.reduceBEq, Nat.reduceLeDiff, reduceCtorEq, Nat.reduceEqDiff, Nat.reduceMod, Nat.reduceMul, zaj, x]; exact hq)
  (hs : zkd ops (fun i => (acc[i]?).getD zi6) = true := by exact zbd (by kernel_rfl))
  (hv : vc = true := by first | rfl | (simp only [go_sem, Nat.reduceLeDiff]; done) | (simp only [go_sem, Nat.reduceLeDiff]; rfl) | (simp; done) | (simp [oneD] <;> omega) | (simp_all; done) | (simp_all [oneD] <;> omega)) (hlim : st'.nx <= lim := by first | exact Nat.le_refl _ | exact Nat.le_of_ble_eq_true rfl | (dsimp only; omega) | (simp <;> omega)) : Ok P lim n (.region id ops true) st Q :=
 .drawn S.tm S.mixed V hok (h x) hs hv hlim hQ
theorem Ok.rg {id : Nat} {ops : Array Oper} {draw : Bool} {st : St} {Q : Exit -> St -> Prop} (S : Seat P tab) (V : List Nat) (h : RegA P tab true lim ops draw ⟨keep V st.vars, st.heap, st.nx⟩ (Q .normal)) (hok : regOk n ops draw = true := by decide +kernel) : Ok P lim n (.region id ops draw) st Q := Ok.region S.tm S.mixed V hok h
theorem WRun.rn {ops : Array Oper} (k : Nat) {l l' : List Oper} {st st' : St} {acc acc' : List FP} {Q : St -> List FP -> Prop} {vc : Bool}
  (hQ : WRun P tab true lim ops l' st' acc' Q) (hdr : false = true \/ ∀ st a b, Q st a -> Q st b := by exact .inr fun _ _ _ h => ⟨nofun, h.2⟩)
  (h : Comes (runK tab true false ops.toList k l st true acc) st' vc acc' l' := by intro q hq; simp only [go_sem, Nat.reduceSub, Int.reduceEq, Nat.reduceLT, Nat.reduceDiv, Nat.reduceAdd, Nat.reduceBEq, Nat.reduceLeDiff, reduceCtorEq, Nat.reduceEqDiff, Nat.reduceMod, Nat.reduceMul, zaj]; exact hq) (hv : vc = true := by first | rfl | (simp only [go_sem, Nat.reduceLeDiff]; done) | (simp only [go_sem, Nat.reduceLeDiff]; rfl) | (simp; done) | (simp [oneD] <;> omega) | (simp_all; done) | (simp_all [oneD] <;> omega)) (hlim : st'.nx <= lim := by first | exact Nat.le_refl _ | exact Nat.le_of_ble_eq_true rfl | (dsimp only; omega) | (simp <;> omega)) : WRun P tab true lim ops l st acc Q :=
 WRun.EN k h.eq hdr hv hlim hQ
theorem WRun.rnx {X : Prop} {ops : Array Oper} (k : Nat) {l l' : List Oper} {st st' : St} {acc acc' : List FP} {Q : St -> List FP -> Prop} {vc : Bool} (x : X)
  (hQ : WRun P tab true lim ops l' st' acc' Q) (hdr : false = true \/ ∀ st a b, Q st a -> Q st b := by exact .inr fun _ _ _ h => ⟨nofun, h.2⟩)
  (h : X -> Comes (runK tab true false ops.toList k l st true acc) st' vc acc' l' := by intro x q hq; simp only [go_sem, Nat.reduceSub, Int.reduceEq, Nat.reduceLT, Nat.reduceDiv, Nat.reduceAdd, Nat.reduceBEq, Nat.reduceLeDiff, reduceCtorEq, Nat.reduceEqDiff, Nat.reduceMod, Nat.reduceMul, zaj, x]; exact hq) (hv : vc = true := by first | rfl | (simp only [go_sem, Nat.reduceLeDiff]; done) | (simp only [go_sem, Nat.reduceLeDiff]; rfl) | (simp; done) | (simp [oneD] <;> omega) | (simp_all; done) | (simp_all [oneD] <;> omega)) (hlim : st'.nx <= lim := by first | exact Nat.le_refl _ | exact Nat.le_of_ble_eq_true rfl | (dsimp only; omega) | (simp <;> omega)) : WRun P tab true lim ops l st acc Q :=
 WRun.EN k (h x).eq hdr hv hlim hQ
theorem WRun.rd {ops : Array Oper} (k : Nat) {l l' : List Oper} {st st' : St} {acc acc' : List FP} {Q : St -> List FP -> Prop} {vc : Bool}
  (hQ : WRun P tab true lim ops l' st' acc' Q)
  (h : Comes (runK tab true true ops.toList k l st true acc) st' vc acc' l' := by intro q hq; simp only [go_sem, Nat.reduceSub, Int.reduceEq, Nat.reduceLT, Nat.reduceDiv, Nat.reduceAdd, Nat.reduceBEq, Nat.reduceLeDiff, reduceCtorEq, Nat.reduceEqDiff, Nat.reduceMod, Nat.reduceMul, zaj]; exact hq) (hv : vc = true := by first | rfl | (simp only [go_sem, Nat.reduceLeDiff]; done) | (simp only [go_sem, Nat.reduceLeDiff]; rfl) | (simp; done) | (simp [oneD] <;> omega) | (simp_all; done) | (simp_all [oneD] <;> omega)) (hlim : st'.nx <= lim := by first | exact Nat.le_refl _ | exact Nat.le_of_ble_eq_true rfl | (dsimp only; omega) | (simp <;> omega)) : WRun P tab true lim ops l st acc Q :=
 WRun.EN k h.eq (.inl rfl) hv hlim hQ
theorem WRun.rdx {X : Prop} {ops : Array Oper} (k : Nat) {l l' : List Oper} {st st' : St} {acc acc' : List FP} {Q : St -> List FP -> Prop} {vc : Bool} (x : X)
  (hQ : WRun P tab true lim ops l' st' acc' Q)
  (h : X -> Comes (runK tab true true ops.toList k l st true acc) st' vc acc' l' := by intro x q hq; simp only [go_sem, Nat.reduceSub, Int.reduceEq, Nat.reduceLT, Nat.reduceDiv, Nat.reduceAdd, Nat.reduceBEq, Nat.reduceLeDiff, reduceCtorEq, Nat.reduceEqDiff, Nat.reduceMod, Nat.reduceMul, zaj, x]; exact hq) (hv : vc = true := by first | rfl | (simp only [go_sem, Nat.reduceLeDiff]; done) | (simp only [go_sem, Nat.reduceLeDiff]; rfl) | (simp; done) | (simp [oneD] <;> omega) | (simp_all; done) | (simp_all [oneD] <;> omega)) (hlim : st'.nx <= lim := by first | exact Nat.le_refl _ | exact Nat.le_of_ble_eq_true rfl | (dsimp only; omega) | (simp <;> omega)) : WRun P tab true lim ops l st acc Q :=
 WRun.EN k (h x).eq (.inl rfl) hv hlim hQ
end
theorem za2 {α : Type} {b c : Prop} [Decidable c] {x y r : α} (h : (if c then x else y) = r) (hb : b) (hc : b -> c := by intro hb; first | exact hb | (simp at hb ⊢; done) | (simp at hb ⊢; exact hb) | (simp at hb ⊢; omega) | (simp at hb ⊢; grind) | grind) : x = r := ite_l h (hc hb)
theorem zaa {α : Type} {b c : Prop} [Decidable c] {x y r : α} (h : (if c then x else y) = r) (hb : b) (hc : b -> ¬ c := by intro hb; first | exact hb | (simp at hb ⊢; done) | (simp at hb ⊢; exact hb) | (simp at hb ⊢; omega) | (simp at hb ⊢; grind) | grind) : y = r := ite_r h (hc hb)
theorem gd {b p : Prop} (hg : b) (h : b -> p := by intro hg; first | (simp only [opds, opd, ev, ofVal, getR, getL, Nat.beq, cond_true, cond_false, Bool.not_true, Bool.false_or, Bool.and_true, Bool.true_and, Prod.mk.injEq, true_and]; done) | (simp only [opds, opd, ev, ofVal, getR, getL, Nat.beq, cond_true, cond_false, Bool.not_true, Bool.false_or, Bool.and_true, Bool.true_and, Prod.mk.injEq, true_and]; first | exact hg | (simp at hg ⊢; done) | (simp at hg ⊢; exact hg) | (simp at hg ⊢; grind)) | rfl) : p := h hg
theorem rsi0 {tab : Nat -> TI} {st : St} {l : List ResultVar} {r : D} (h : ResIs tab st l r := by simp only [ResIs, resL, resD, resT, go_sem, Nat.reduceSub, Int.reduceEq, Nat.reduceLT, Nat.reduceDiv, Nat.reduceAdd, Nat.reduceBEq, Nat.reduceLeDiff, reduceCtorEq, Nat.reduceEqDiff, Nat.reduceMod, Nat.reduceMul, zaj]) : ResIs tab st l r := h
theorem rsi {tab : Nat -> TI} {st : St} {l : List ResultVar} {r : D} (h : ResIs tab st l r := by simp only [ResIs, resL, resD, resT, go_sem, Nat.reduceSub, Int.reduceEq, Nat.reduceLT, Nat.reduceDiv, Nat.reduceAdd, Nat.reduceBEq, Nat.reduceLeDiff, reduceCtorEq, Nat.reduceEqDiff, Nat.reduceMod, Nat.reduceMul, zaj]) : ∃ ds, resL tab st l = some (ds, true) /\ resT ds = r := h.to
theorem Goes.m {lim n0 : Nat} {st s : St} (V H : List Nat) (ps : List (Nat × Nat)) (h1 : (⟨mvV (mvF ps) (pickL V st.vars), mvH (mvF ps) (pickL H st.heap), s.nx⟩ : St) = s := by first | with_reducible rfl | (simp only [go_sem, Nat.reduceBEq, Nat.reduceAdd]; done) | (simp only [go_sem, Nat.reduceBEq, Nat.reduceAdd]; with_reducible rfl) | rfl | (simp only [go_sem, Nat.reduceBEq, Nat.reduceAdd]; rfl))
  (h2 : n0 <= s.nx := by exact Nat.le_of_ble_eq_true rfl) (h3 : s.nx <= lim := by exact Nat.le_of_ble_eq_true rfl) (h4 : mvOk ps n0 s.nx (idsV (pickL V st.vars) ++ idsH (pickL H st.heap)) = true := by kernel_rfl) : Goes lim n0 st s := .mv V H ps h1 h2 h3 h4
theorem Goes.mx {X : Prop} {lim n0 : Nat} {st s : St} (x : X) (V H : List Nat) (ps : List (Nat × Nat)) (h1 : X -> (⟨mvV (mvF ps) (pickL V st.vars), mvH (mvF ps) (pickL H st.heap), s.nx⟩ : St) = s := by intro x; first | with_reducible rfl | (simp only [x, go_sem, Nat.reduceBEq, Nat.reduceAdd, Bool.false_and, Bool.true_or, Bool.and_false]; done) | (simp only [x, go_sem, Nat.reduceBEq, Nat.reduceAdd, Bool.false_and, Bool.true_or, Bool.and_false]; with_reducible rfl) | rfl | (simp only [x, go_sem, Nat.reduceBEq, Nat.reduceAdd, Bool.false_and, Bool.true_or, Bool.and_false]; rfl))
  (h2 : n0 <= s.nx := by exact Nat.le_of_ble_eq_true rfl) (h3 : s.nx <= lim := by exact Nat.le_of_ble_eq_true rfl) (h4 : mvOk ps n0 s.nx (idsV (pickL V st.vars) ++ idsH (pickL H st.heap)) = true := by kernel_rfl) : Goes lim n0 st s := .mv V H ps (h1 x) h2 h3 h4
end Go.Tm
end
section
namespace Go.Tm
structure PlN {α : Type} (f g : α -> D) : Prop where
 un : ∀ x, unf (f x) = g x
 ids : ∀ x, (f x).ids = []
 lo : ∀ x, okM low3 (f x) = true
 nw : ∀ x, okM new1 (f x) = true
section
variable {α : Type} {f g : α -> D} (hf : PlN f g)
include hf
theorem PlN.unfL (l : List α) : Tm.unfL (l.map f) = l.map g := by
 induction l with
 | nil => rfl
 | cons x l ih => simp only [List.map_cons, Tm.unfL, hf.un, ih]
theorem PlN.idsL (l : List α) : D.idsL (l.map f) = [] := by
 induction l with
 | nil => rfl
 | cons x l ih => simp only [List.map_cons, D.idsL, hf.ids, ih, List.nil_append]
theorem PlN.okLo (l : List α) : Tm.okML low3 (l.map f) = true := by
 induction l with
 | nil => rfl
 | cons x l ih => simp only [List.map_cons, Tm.okML, hf.lo, ih, Bool.and_self]
theorem PlN.okNw (l : List α) : Tm.okML new1 (l.map f) = true := by
 induction l with
 | nil => rfl
 | cons x l ih => simp only [List.map_cons, Tm.okML, hf.nw, ih, Bool.and_self]
theorem zle {hp : Nat -> Option Blk} {id s e n : Nat} {oc : Option Nat} {l : List α} (h : hp id = some (.arr e s true (l.map f))) (hn : n = l.length) : lend hp (.ref id s 0 n oc) = (.imm s (l.map g) 4, true) := by
 subst hn
 have ht : (l.map f).take l.length = l.map f := List.take_of_length_le (by simp)
 simp only [lend, h, List.drop_zero, ht, hf.unfL, hf.okLo, hf.idsL, List.length_map, Nat.zero_add, Nat.beq_refl, List.isEmpty_nil, Bool.and_true, Bool.true_and, Prod.mk.injEq, true_and]
 exact Nat.ble_eq_true_of_le (Nat.le_refl _)
theorem zll {hp : Nat -> Option Blk} {id s e n : Nat} {oc : Option Nat} {l : List α} (h : hp id = some (.arr e s true (l.map f))) (hn : n = l.length) : frz hp (.ref id s 0 n oc) = (.imm s (l.map g) 12, true) := by
 subst hn
 have ht : (l.map f).take l.length = l.map f := List.take_of_length_le (by simp)
 simp only [frz, h, List.drop_zero, ht, hf.unfL, hf.okNw, hf.idsL, List.length_map, Nat.zero_add, Nat.beq_refl, List.isEmpty_nil, Bool.and_true, Bool.true_and, Prod.mk.injEq, true_and]
 exact Nat.ble_eq_true_of_le (Nat.le_refl _)
theorem zlc (e s : Nat) (l : List α) : newB (some (.arr e s true (l.map f))) = true := by simp only [newB, hf.okNw, Bool.and_self]
end
theorem zdv {α : Type} {f g : α -> D} (m : Nat) (h : ∀ x, mkM m (g x) = f x) (l : List α) : mkML m (l.map g) = l.map f := by
 induction l with
 | nil => rfl
 | cons x l ih => simp only [List.map_cons, mkML, h, ih]
def WkN (d d' : D) : Prop := ∀ (fr : Nat) (w : World) (g : Gh) (hp : Nat -> Option Blk) (nu : Nat -> Bool), Mem fr w g hp nu -> ∀ (q : Bool) (v : Value), rep { cx w g hp with rf := q } d v -> rep { cx w g hp with rf := q } d' v
theorem WkN.refl (d : D) : WkN d d := fun _ _ _ _ _ _ _ _ h => h
def WkNs : List D -> List D -> Prop
 | [], [] => True
 | d :: l, d' :: l' => WkN d d' /\ WkNs l l'
 | _, _ => False
theorem WkNs.refl : ∀ l : List D, WkNs l l
 | [] => trivial
 | d :: l => ⟨.refl d, WkNs.refl l⟩
theorem WkNs.len : ∀ {a b : List D}, WkNs a b -> a.length = b.length
 | [], [], _ => rfl
 | _ :: _, _ :: _, h => by simp only [List.length_cons, WkNs.len h.2]
 | [], _ :: _, h => h.elim
 | _ :: _, [], h => h.elim
theorem WkNs.elems {fr : Nat} {w : World} {g : Gh} {hp : Nat -> Option Blk} {nu : Nat -> Bool} (hM : Mem fr w g hp nu) (q : Bool) : ∀ {l l' : List D}, WkNs l l' -> ∀ b o s, Tm.elems { cx w g hp with rf := q } l b o s -> Tm.elems { cx w g hp with rf := q } l' b o s
 | [], [], _, _, _, _, h => h
 | d :: l, d' :: l', hw, b, o, s, h => by
  simp only [Tm.elems] at h ⊢
  obtain ⟨⟨v, h1, h2⟩, h3⟩ := h
  exact ⟨⟨v, hw.1 fr w g hp nu hM q v h1, h2⟩, WkNs.elems hM q hw.2 b (o + s) s h3⟩
 | [], _ :: _, hw, _, _, _, _ => hw.elim
 | _ :: _, [], hw, _, _, _, _ => hw.elim
theorem Goes.arr {lim n0 : Nat} {st s : St} (id : Nat) (items items' : List D) {e s' : Nat} {p : Bool} (hd : getL st.heap id = some (.arr e s' p items)) (hw : WkNs items items') (h : Goes lim n0 ⟨st.vars, put st.heap id (.arr e s' p items'), st.nx⟩ s) : Goes lim n0 st s := by
 intro E n F a w g hE hF hR
 obtain ⟨h1, h2, h3⟩ := hF
 have hid : F.hp id = some (.arr e s' p items) := by rw [h2]; exact hd
 have hp : ∀ i, getL (put st.heap id (.arr e s' p items')) i = if id = i then some (.arr e s' p items') else F.hp i := by
  intro i; rw [zgc, h2]
 have hne : ∀ i, getL (put st.heap id (.arr e s' p items')) i ≠ none ↔ F.hp i ≠ none := by
  intro i
  rw [hp]
  by_cases e : id = i
  ·subst e; simp [hid]
  ·rw [if_neg e]
 have hown : ownB g (getL (put st.heap id (.arr e s' p items'))) = ownB g F.hp := by
  funext b
  apply propext
  constructor
  ·rintro ⟨i, o, k1, k2⟩; exact ⟨i, o, (hne i).1 k1, k2⟩
  ·rintro ⟨i, o, k1, k2⟩; exact ⟨i, o, (hne i).2 k1, k2⟩
 have hcx : cx w g (getL (put st.heap id (.arr e s' p items'))) = cx w g F.hp := by simp only [cx, hown]
 refine h E n ⟨F.rd, getL (put st.heap id (.arr e s' p items')), F.nu⟩ a w g hE ⟨h1, rfl, h3⟩ ⟨hR.sz, hR.df, fun t => by rw [hcx]; exact hR.rd t, ⟨fun i blk hb => ?_, fun i i' b o o' k1 k2 => hR.mem.inj i i' b o o' ((hne i).1 k1) ((hne i').1 k2), fun i hi => ?_, ?_, hR.mem.fl⟩, fun i b o k1 => hR.base i b o ((hne i).1 k1), hR.keep, hR.gz, hR.gs, hR.nu⟩
 ·have hb : getL (put st.heap id (.arr e s' p items')) i = some blk := hb
  rw [hcx]
  rw [hp] at hb
  by_cases e : id = i
  ·subst e
   rw [if_pos rfl] at hb
   cases hb
   rcases hR.mem.hd id _ hid with ⟨e1, e2⟩ | ⟨b, cs, e1, e2, e3, e4⟩
   ·subst e1
    have : items' = [] := List.eq_nil_of_length_eq_zero hw.len.symm
    exact .inl ⟨this, e2⟩
   ·exact .inr ⟨b, cs, e1, e2, by rw [<- hw.len]; exact e3, WkNs.elems hR.mem _ hw _ _ _ e4⟩
  ·rw [if_neg e] at hb
   exact hR.mem.hd i blk hb
 ·obtain ⟨k1, k2⟩ := hR.mem.nw i hi
  refine ⟨k1, ?_⟩
  rcases Classical.em (getL (put st.heap id (.arr e s' p items')) i = none) with e | e
  ·exact e
  ·exact absurd k2 ((hne i).1 e)
 ·rw [hown]; exact hR.mem.zs
theorem setN_map {α : Type} (f : α -> D) (l : List α) (i : Nat) (x : α) : setN (l.map f) i (f x) = (l.set i x).map f := by
 unfold setN
 exact List.map_set.symm
end Go.Tm
namespace Go.Tm
theorem zmb (k : IntKind) : Pl0 (D.int k) := ⟨pl_int k, fun _ _ => rfl⟩
theorem zjp (d : D) : mkZ 1 d = mkM 1 d := rfl
theorem zhz (l : List D) : mkZL 1 l = mkML 1 l := rfl
theorem zjr (k : IntKind) (l : List Int) : mkML 1 (l.map (D.int k)) = l.map (D.int k) := zdv 1 (fun _ => rfl) l
theorem zjq (l : List (List UInt8)) : mkML 1 (l.map D.str) = l.map D.str := zdv 1 (fun _ => rfl) l
theorem zi0 (l : List Bool) : mkML 1 (l.map D.bool) = l.map D.bool := zdv 1 (fun _ => rfl) l
theorem Goes.refl {lim n0 : Nat} {st : St} : Goes lim n0 st st := fun _ _ F _ _ g _ hF hR => ⟨F, g, hF, hR⟩
theorem WkNs.set {α : Type} {f : α -> D} (l : List α) (i : Nat) (x : α) {d : D} (h : WkN d (f x)) : WkNs (setN (l.map f) i d) ((l.set i x).map f) := by
 unfold setN
 induction l generalizing i with
 | nil => exact trivial
 | cons y l ih =>
  cases i with
  | zero => exact ⟨h, .refl _⟩
  | succ i => exact ⟨.refl _, ih i⟩
theorem Ok.arr {P : Program} {lim n : Nat} {c : Code} {st : St} {Q : Exit -> St -> Prop} (id : Nat) (items items' : List D) {e s' : Nat} {p : Bool} (hd : getL st.heap id = some (.arr e s' p items)) (hw : WkNs items items') (k : Ok P lim n c ⟨st.vars, put st.heap id (.arr e s' p items'), st.nx⟩ Q) : Ok P lim n c st Q :=
 .goes (.arr id items items' hd hw .refl) k
end Go.Tm
namespace Go.Tm
def zgy (l : List Int) : List UInt8 := l.map fun n => UInt8.ofNat n.toNat
def zg2 (l : List UInt8) : List Int := l.map fun b => (b.toNat : Int)
theorem zfj (l : List Int) : zjc (l.map (D.int .u8)) = some (zgy l) := by
 induction l with
 | nil => rfl
 | cons x l ih => simp only [List.map_cons, zjc, ih, zgy]
theorem zn4 (l : List UInt8) : l.map ub = (zg2 l).map (D.int .u8) := by
 simp only [zg2, List.map_map]; rfl
end Go.Tm
namespace Go.Tm
end Go.Tm
namespace Go.Tm
def WkGs : List D -> List D -> Prop
 | [], [] => True
 | d :: l, d' :: l' => WkG d d' /\ WkGs l l'
 | _, _ => False
theorem WkG.refl (d : D) : WkG d d := fun _ _ _ _ _ _ _ h => h
theorem WkGs.cons {d d' : D} {l l' : List D} (h : WkG d d') (hl : WkGs l l') : WkGs (d :: l) (d' :: l') := ⟨h, hl⟩
theorem WkGs.keep {d : D} {l l' : List D} (hl : WkGs l l') : WkGs (d :: l) (d :: l') := ⟨.refl d, hl⟩
theorem WkGs.refl : ∀ l : List D, WkGs l l
 | [] => trivial
 | d :: l => ⟨.refl d, WkGs.refl l⟩
theorem WkGs.reps {fr : Nat} {w : World} {g : Gh} {hp : Nat -> Option Blk} {nu : Nat -> Bool} (hM : Mem fr w g hp nu) : ∀ {l l' : List D}, WkGs l l' -> ∀ vs, Tm.reps (cx w g hp) l vs -> Tm.reps (cx w g hp) l' vs
 | [], [], _, vs, h => h
 | d :: l, d' :: l', hw, vs, h => by
  simp only [Tm.reps] at h ⊢
  obtain ⟨v, vs', e, h1, h2⟩ := h
  exact ⟨v, vs', e, hw.1 fr w g hp nu hM v h1, WkGs.reps hM hw.2 vs' h2⟩
 | [], _ :: _, hw, _, _ => hw.elim
 | _ :: _, [], hw, _, _ => hw.elim
theorem WkG.aggs {l l' : List D} (h : WkGs l l') : WkG (.agg l) (.agg l') := by
 intro fr w g hp nu hM v hv
 simp only [rep] at hv ⊢
 obtain ⟨cs, e, hc⟩ := hv
 exact ⟨cs, e, h.reps hM _ hc⟩
theorem Goes.boxs {lim n0 : Nat} {st s : St} (id : Nat) (cells cells' : List D) (hd : getL st.heap id = some (.box cells)) (hw : WkGs cells cells') (h : Goes lim n0 ⟨st.vars, put st.heap id (.box cells'), st.nx⟩ s) : Goes lim n0 st s := by
 intro E n F a w g hE hF hR
 obtain ⟨h1, h2, h3⟩ := hF
 have hid : F.hp id = some (.box cells) := by rw [h2]; exact hd
 have hp : ∀ i, getL (put st.heap id (.box cells')) i = if id = i then some (.box cells') else F.hp i := by
  intro i; rw [zgc, h2]
 have hne : ∀ i, getL (put st.heap id (.box cells')) i ≠ none ↔ F.hp i ≠ none := by
  intro i
  rw [hp]
  by_cases e : id = i
  ·subst e; simp [hid]
  ·rw [if_neg e]
 have hown : ownB g (getL (put st.heap id (.box cells'))) = ownB g F.hp := by
  funext b
  apply propext
  constructor
  ·rintro ⟨i, o, k1, k2⟩; exact ⟨i, o, (hne i).1 k1, k2⟩
  ·rintro ⟨i, o, k1, k2⟩; exact ⟨i, o, (hne i).2 k1, k2⟩
 have hcx : cx w g (getL (put st.heap id (.box cells'))) = cx w g F.hp := by simp only [cx, hown]
 refine h E n ⟨F.rd, getL (put st.heap id (.box cells')), F.nu⟩ a w g hE ⟨h1, rfl, h3⟩ ⟨hR.sz, hR.df, fun t => by rw [hcx]; exact hR.rd t, ⟨fun i blk hb => ?_, fun i i' b o o' k1 k2 => hR.mem.inj i i' b o o' ((hne i).1 k1) ((hne i').1 k2), fun i hi => ?_, ?_, hR.mem.fl⟩, fun i b o k1 => hR.base i b o ((hne i).1 k1), hR.keep, hR.gz, hR.gs, hR.nu⟩
 ·have hb : getL (put st.heap id (.box cells')) i = some blk := hb
  rw [hcx]
  rw [hp] at hb
  by_cases e : id = i
  ·subst e
   rw [if_pos rfl] at hb
   cases hb
   obtain ⟨b, cs, T, e1, e2, e3, e4⟩ := hR.mem.hd id _ hid
   exact ⟨b, cs, T, e1, e2, hw.reps hR.mem _ e3, e4⟩
  ·rw [if_neg e] at hb
   exact hR.mem.hd i blk hb
 ·obtain ⟨k1, k2⟩ := hR.mem.nw i hi
  refine ⟨k1, ?_⟩
  rcases Classical.em (getL (put st.heap id (.box cells')) i = none) with e | e
  ·exact e
  ·exact absurd k2 ((hne i).1 e)
 ·rw [hown]; exact hR.mem.zs
end Go.Tm
namespace Go.Tm
theorem WkG.of_new12 (s : Nat) (l : List D) {c : Nat} (hc : c / 8 = 1) : WkG (.imm s l c) (.imm s l 12) := by
 intro fr w g hp nu hM v h
 simp only [rep, hc] at h ⊢
 obtain ⟨a, cap, rfl, h1, h2, _, _, _, h6, hfl, h7⟩ := h
 exact ⟨a, cap, rfl, h1, h2, by simp, by simp, by simp, h6, fun _ => hfl (by omega), h7⟩
end Go.Tm
namespace Go.Tm
theorem zir {P : Program} {K : FuncId} {args args' : List D} {H : List (Nat × Blk)} {r : D} {eff : List (Nat × Option Blk)} {nw : Nat × Nat} (h : WkGs args args') (hK : CallH P K args' H r eff nw) : CallH P K args H r eff nw :=
 ⟨hK.1, fun fr w g hp nu vs hM hH hn hvs => hK.2 fr w g hp nu vs hM hH hn (h.reps hM vs hvs)⟩
theorem zag {P : Program} {K : FuncId} {args : List D} {H : List (Nat × Blk)} {r : D} {eff : List (Nat × Option Blk)} {nw : Nat × Nat} (a b : Nat) (h : CallH P K args H r eff nw) (ha : Nat.blt a nw.1 = true := by rfl) (hb : Nat.blt b nw.1 = true := by rfl) :
  CallH P K (D.renL (sw a b) args) (mvH (sw a b) H) (r.ren (sw a b)) (renE (sw a b) eff) nw := by
 refine zly (π := sw a b) (sw_sw a b) nw (fun id h1 h2 => ?_) h
 have ha := Nat.le_of_ble_eq_true ha
 have hb := Nat.le_of_ble_eq_true hb
 have e : sw a b id = id := by
  unfold sw
  rw [zbs (by omega), zbs (by omega)]; rfl
 rw [e]; exact ⟨h1, h2⟩
theorem zda {P : Program} {K : FuncId} {args : List D} {H : List (Nat × Blk)} {r : D} {eff : List (Nat × Option Blk)} {a b : Nat} (n : Nat) (h : CallH P K args H r eff (a, b)) (hn : Nat.ble (n + (b - a)) a = true := by rfl) :
  CallH P K (D.renL (bsw n a (b - a)) args) (mvH (bsw n a (b - a)) H) (r.ren (bsw n a (b - a))) (renE (bsw n a (b - a)) eff) (n, n + (b - a)) := by
 have hn := Nat.le_of_ble_eq_true hn
 refine zly (π := bsw n a (b - a)) (bsw_bsw hn) _ (fun id h1 h2 => ?_) h
 have h1 : a <= id := h1
 have h2 : id < b := h2
 have e1 : (Nat.ble n id && Nat.blt id (n + (b - a))) = false := by
  rw [<- Bool.not_eq_true]; simp only [Bool.and_eq_true]
  rintro ⟨_, k⟩
  have := Nat.le_of_ble_eq_true k
  omega
 have e2 : (Nat.ble a id && Nat.blt id (a + (b - a))) = true := by
  simp only [Bool.and_eq_true]
  exact ⟨Nat.ble_eq_true_of_le h1, Nat.ble_eq_true_of_le (by omega)⟩
 simp only [bsw, e1, e2, cond_false, cond_true]
 omega
end Go.Tm
namespace Go.Tm
theorem zcf (a b : Nat) : Nat.beq a b = (a == b) := by
 by_cases h : a = b
 ·subst h; simp
 ·rw [zbs h]; exact (beq_eq_false_iff_ne.2 h).symm
end Go.Tm
namespace Go.Tm
end Go.Tm
namespace Go.Tm
def mget {α β : Type} [DecidableEq α] (k : α) : List (α × β) -> Option β
 | [] => none
 | x :: l => if k = x.1 then some x.2 else mget k l
def mput {α β : Type} [DecidableEq α] (k : α) (v : β) : List (α × β) -> List (α × β)
 | [] => [(k, v)]
 | x :: l => if k = x.1 then (k, v) :: l else x :: mput k v l
def mapD {α β : Type} (f : α -> D) (g : β -> D) (l : List (α × β)) : List (D × D) := l.map fun x => (f x.1, g x.2)
theorem zgo {β : Type} (q : IntKind) (g : β -> D) (k : Int) (l : List (Int × β)) : findD (.int q k) (mapD (D.int q) g l) = some ((mget k l).map g) := by
 induction l with
 | nil => rfl
 | cons x l ih =>
  simp only [mapD, List.map_cons, findD, keyEq, decide_true, cond_true, mget] at ih ⊢
  by_cases h : k = x.1
  ·simp [h]
  ·have : (k == x.1) = false := beq_eq_false_iff_ne.2 h
   simp only [this, h, if_false]
   exact ih
theorem zgn {β : Type} (g : β -> D) (k : List UInt8) (l : List (List UInt8 × β)) : findD (.str k) (mapD D.str g l) = some ((mget k l).map g) := by
 induction l with
 | nil => rfl
 | cons x l ih =>
  simp only [mapD, List.map_cons, findD, keyEq, mget] at ih ⊢
  by_cases h : k = x.1
  ·simp [h]
  ·have : (k == x.1) = false := beq_eq_false_iff_ne.2 h
   simp only [this, h, if_false]
   exact ih
theorem updD_int {β : Type} (q : IntKind) (g : β -> D) (k : Int) (v : β) (d : D) (hd : d = g v) (l : List (Int × β)) : updD (.int q k) d (mapD (D.int q) g l) = some (mapD (D.int q) g (mput k v l)) := by
 subst hd
 induction l with
 | nil => rfl
 | cons x l ih =>
  simp only [mapD, List.map_cons, updD, keyEq, decide_true, cond_true, mput] at ih ⊢
  by_cases h : k = x.1
  ·simp [h]
  ·have : (k == x.1) = false := beq_eq_false_iff_ne.2 h
   simp only [this, h, if_false, ih, List.map_cons]
theorem getD_map {α : Type} (f : α -> D) (z : α) (o : Option α) : (o.map f).getD (f z) = f (o.getD z) := by cases o <;> rfl
theorem zi5 (q : IntKind) (z : Int) (o : Option Int) : (o.map (D.int q)).getD (.int q z) = .int q (o.getD z) := getD_map _ z o
theorem zi4 (z : List UInt8) (o : Option (List UInt8)) : (o.map D.str).getD (.str z) = .str (o.getD z) := getD_map _ z o
theorem zgm (z : Bool) (o : Option Bool) : (o.map D.bool).getD (.bool z) = .bool (o.getD z) := getD_map _ z o
theorem Ok.scopeT {P : Program} {lim n : Nat} {c : Code} {st : St} {Q : Exit -> St -> Prop} (h : Ok P lim n c st Q)
  (hQ : ∀ l s, ¬ Q (.goto l) s := by intro l s h; first | exact h | (obtain ⟨h | h, _⟩ := h <;> cases h) | (obtain ⟨_, _, h | h, _⟩ := h <;> cases h)) : Ok P lim n (.scope c) st Q :=
 .scope (h.mono fun _ s hq => ⟨fun l he => hQ l s (he ▸ hq), hq⟩)
end Go.Tm
namespace Go.Tm
theorem callH_res {P : Program} {K : FuncId} {args : List D} {H : List (Nat × Blk)} {r r' : D} {eff : List (Nat × Option Blk)} {nw : Nat × Nat} (hw : WkG r r') (h : CallH P K args H r eff nw) : CallH P K args H r' eff nw :=
 ⟨h.1, fun fr w g hp nu vs hM hH hn hvs => (h.2 fr w g hp nu vs hM hH hn hvs).mono fun _ _ ⟨v, g', he, hA⟩ => ⟨v, g', he, hA.gz, hA.gs, hA.keep, hA.mem, hA.own, hw _ _ _ _ _ hA.mem v hA.res⟩⟩
theorem WkG.un (d : D) : WkG d .undef := fun _ _ _ _ _ _ _ _ => by simp only [rep]
end Go.Tm
end
section
namespace Go.Tm
def mx {α : Type} (f g : α -> D) (k : Nat) (l : List α) : List D := (l.take k).map f ++ (l.drop k).map g
section
variable {α : Type} (f g : α -> D)
theorem zn2 (k : Nat) (l : List α) : (mx f g k l).length = l.length := by
 simp only [mx, List.length_append, List.length_map, List.length_take, List.length_drop]; omega
theorem mx_nth [Inhabited α] {k : Nat} {l : List α} (h : k < l.length) : nth (mx f g k l) k = g (l.getD k default) := by
 unfold nth mx
 rw [List.getD_eq_getElem?_getD, List.getElem?_append_right (by simp; omega)]
 simp [List.getElem?_drop, h, show min k l.length = k by omega]
theorem mx_set {k : Nat} {l : List α} (y : α) (h : k < l.length) : setN (mx f g k l) k (f y) = mx f g (k + 1) (l.set k y) := by
 unfold setN mx
 have e : ((l.take k).map f).length = k := by simp; omega
 rw [List.set_append_right _ _ (by omega), e, Nat.sub_self]
 have h1 : l.drop k = l[k] :: l.drop (k + 1) := List.drop_eq_getElem_cons h
 rw [h1, List.map_cons, List.set_cons_zero]
 have h2 : (l.set k y).take (k + 1) = l.take k ++ [y] := by
  rw [List.take_succ_eq_append_getElem (by simpa using h)]
  simp [List.take_set_of_le]
 have h3 : (l.set k y).drop (k + 1) = l.drop (k + 1) := by
  rw [List.drop_set_of_lt (by omega)]
 rw [h2, h3]
 simp
theorem mx_zero (l : List α) : mx f g 0 l = l.map g := by simp [mx]
theorem mx_end {k : Nat} {l : List α} (h : l.length <= k) : mx f g k l = l.map f := by
 unfold mx
 rw [List.take_of_length_le h, List.drop_of_length_le h]
 simp
theorem WkNs.of_eq {l l' : List D} (h : l = l') : WkNs l l' := h ▸ .refl l
theorem WkNs.mx0 (l : List α) : WkNs (l.map g) (mx f g 0 l) := .of_eq (mx_zero f g l).symm
theorem WkNs.mxk {k k' : Nat} (l : List α) (h : k = k') : WkNs (mx f g k l) (mx f g k' l) := .of_eq (by rw [h])
theorem WkNs.mxe {k : Nat} {l : List α} (h : l.length <= k) : WkNs (mx f g k l) (l.map f) := .of_eq (mx_end f g h)
end
theorem toNat_succ {n : Int} {l : Nat} (h : 0 <= n /\ n < (l : Int)) (hl : l < 1000000) : n.toNat + 1 = (wr .i64 (n + 1)).toNat := by
 rw [wr_eq _ _ (by show (-9223372036854775808 : Int) <= _; omega) (by show _ <= (9223372036854775807 : Int); omega)]
 omega
theorem Goes.pre {lim n0 : Nat} {st s : St} (id k : Nat) (items : List D) {e s' : Nat} {p : Bool} (hd : getL st.heap id = some (.arr e s' p items)) (h : Goes lim n0 ⟨st.vars, put st.heap id (.arr e s' p (items.take k)), st.nx⟩ s) : Goes lim n0 st s := by
 intro E n F a w g hE hF hR
 obtain ⟨h1, h2, h3⟩ := hF
 let items' := items.take k
 have hid : F.hp id = some (.arr e s' p items) := by rw [h2]; exact hd
 have hp : ∀ i, getL (put st.heap id (.arr e s' p items')) i = if id = i then some (.arr e s' p items') else F.hp i := by
  intro i; rw [zgc, h2]
 have hne : ∀ i, getL (put st.heap id (.arr e s' p items')) i ≠ none ↔ F.hp i ≠ none := by
  intro i
  rw [hp]
  by_cases e : id = i
  ·subst e; simp [hid]
  ·rw [if_neg e]
 have hown : ownB g (getL (put st.heap id (.arr e s' p items'))) = ownB g F.hp := by
  funext b
  apply propext
  constructor
  ·rintro ⟨i, o, k1, k2⟩; exact ⟨i, o, (hne i).1 k1, k2⟩
  ·rintro ⟨i, o, k1, k2⟩; exact ⟨i, o, (hne i).2 k1, k2⟩
 have hcx : cx w g (getL (put st.heap id (.arr e s' p items'))) = cx w g F.hp := by simp only [cx, hown]
 refine h E n ⟨F.rd, getL (put st.heap id (.arr e s' p items')), F.nu⟩ a w g hE ⟨h1, rfl, h3⟩ ⟨hR.sz, hR.df, fun t => by rw [hcx]; exact hR.rd t, ⟨fun i blk hb => ?_, fun i i' b o o' k1 k2 => hR.mem.inj i i' b o o' ((hne i).1 k1) ((hne i').1 k2), fun i hi => ?_, ?_, hR.mem.fl⟩, fun i b o k1 => hR.base i b o ((hne i).1 k1), hR.keep, hR.gz, hR.gs, hR.nu⟩
 ·have hb : getL (put st.heap id (.arr e s' p items')) i = some blk := hb
  rw [hcx]
  rw [hp] at hb
  by_cases e : id = i
  ·subst e
   rw [if_pos rfl] at hb
   cases hb
   rcases hR.mem.hd id _ hid with ⟨e1, e2⟩ | ⟨b, cs, e1, e2, e3, e4⟩
   ·exact .inl ⟨by simp [items', e1], e2⟩
   ·refine .inr ⟨b, cs, e1, e2, Nat.le_trans (Nat.mul_le_mul_right _ (by simp [items']; omega)) e3, zes _ _ _ _ _ e4⟩
  ·rw [if_neg e] at hb
   exact hR.mem.hd i blk hb
 ·obtain ⟨k1, k2⟩ := hR.mem.nw i hi
  refine ⟨k1, ?_⟩
  rcases Classical.em (getL (put st.heap id (.arr e s' p items')) i = none) with e | e
  ·exact e
  ·exact absurd k2 ((hne i).1 e)
 ·rw [hown]; exact hR.mem.zs
theorem zg6 {α β : Type} {g : α -> D} {h : β -> D} (hg : ∀ x, (g x).ids = []) (hh : ∀ y, (h y).ids = []) (l : List (α × β)) : idsEs (mapD g h l) = [] := by
 induction l with
 | nil => rfl
 | cons x l ih => simp only [mapD, List.map_cons, idsEs, hg, hh, List.nil_append] at ih ⊢; exact ih
def Blk.renM (f : Nat -> Nat) : Blk -> Blk
 | .map es => .map es
 | b => b.ren f
def mvHM (f : Nat -> Nat) : List (Nat × Blk) -> List (Nat × Blk)
 | [] => []
 | (i, b) :: r => (f i, b.renM f) :: mvHM f r
def Blk.idsM : Blk -> List Nat
 | .map _ => []
 | b => b.ids
def idsHM : List (Nat × Blk) -> List Nat
 | [] => []
 | (i, b) :: r => i :: (b.idsM ++ idsHM r)
def mapsOk : List (Nat × Blk) -> Prop
 | [] => True
 | (_, .map es) :: r => idsEs es = [] /\ mapsOk r
 | _ :: r => mapsOk r
theorem renEs_noids (f : Nat -> Nat) : ∀ l : List (D × D), idsEs l = [] -> renEs f l = l
 | [], _ => rfl
 | x :: l, h => by
  simp only [idsEs, List.append_eq_nil_iff] at h
  simp only [renEs, zjl f _ h.1.1, zjl f _ h.1.2, renEs_noids f l h.2]
theorem mvHM_eq (f : Nat -> Nat) : ∀ l : List (Nat × Blk), mapsOk l -> mvHM f l = mvH f l /\ idsHM l = idsH l
 | [], _ => ⟨rfl, rfl⟩
 | (i, .map es) :: r, h => by
  obtain ⟨h1, h2⟩ := mvHM_eq f r h.2
  have := renEs_noids f es h.1
  simp only [mvHM, mvH, Blk.renM, Blk.ren, this, h1, idsHM, idsH, Blk.idsM, Blk.ids, h.1, h2]
  exact ⟨trivial, trivial⟩
 | (i, .box cs) :: r, h => by
  obtain ⟨h1, h2⟩ := mvHM_eq f r h
  simp only [mvHM, mvH, Blk.renM, h1, idsHM, idsH, Blk.idsM, h2]
  exact ⟨trivial, trivial⟩
 | (i, .arr e s p l) :: r, h => by
  obtain ⟨h1, h2⟩ := mvHM_eq f r h
  simp only [mvHM, mvH, Blk.renM, h1, idsHM, idsH, Blk.idsM, h2]
  exact ⟨trivial, trivial⟩
theorem Goes.mp {lim n0 : Nat} {st s : St} (V H : List Nat) (ps : List (Nat × Nat)) (h5 : mapsOk (pickL H st.heap)) (h1 : (⟨mvV (mvF ps) (pickL V st.vars), mvHM (mvF ps) (pickL H st.heap), s.nx⟩ : St) = s := by first | with_reducible rfl | rfl | (simp only [go_sem, Nat.reduceBEq, Nat.reduceAdd]; rfl))
  (h2 : n0 <= s.nx := by exact Nat.le_of_ble_eq_true rfl) (h3 : s.nx <= lim := by exact Nat.le_of_ble_eq_true rfl) (h4 : mvOk ps n0 s.nx (idsV (pickL V st.vars) ++ idsHM (pickL H st.heap)) = true := by kernel_rfl) : Goes lim n0 st s := by
 obtain ⟨e1, e2⟩ := mvHM_eq (mvF ps) _ h5
 rw [e1] at h1
 rw [e2] at h4
 exact .mv V H ps h1 h2 h3 h4
theorem zby {P : Program} {K : FuncId} {args : List D} {H : List (Nat × Blk)} {r : D} {eff : List (Nat × Option Blk)} {a b : Nat} (n : Nat) (h : CallH P K args H r eff (a, b)) (hn : (Nat.ble b n && Nat.ble a b) = true := by rfl) :
  CallH P K (D.renL (bsw a n (b - a)) args) (mvH (bsw a n (b - a)) H) (r.ren (bsw a n (b - a))) (renE (bsw a n (b - a)) eff) (n, n + (b - a)) := by
 simp only [Bool.and_eq_true] at hn
 have hn1 := Nat.le_of_ble_eq_true hn.1
 have hn2 := Nat.le_of_ble_eq_true hn.2
 refine zly (π := bsw a n (b - a)) (bsw_bsw (by omega)) _ (fun id h1 h2 => ?_) h
 have h1 : a <= id := h1
 have h2 : id < b := h2
 have e1 : (Nat.ble a id && Nat.blt id (a + (b - a))) = true := by
  simp only [Bool.and_eq_true]
  exact ⟨Nat.ble_eq_true_of_le h1, Nat.ble_eq_true_of_le (by omega)⟩
 simp only [bsw, e1, cond_true]
 omega
end Go.Tm
end
section
namespace Go.Proofs
open Go.Tm
structure TMessage where
 Id : Int
 Groups : List Int
 Topic : Int
 Key : List UInt8
 Body : List UInt8
 deriving Inhabited, DecidableEq
structure TWait where
 Message : TMessage
 Time : Int
 Final : Bool
 deriving Inhabited, DecidableEq
structure TStamp where
 Time : Int
 Id : Int
 deriving Inhabited, DecidableEq
structure TSkeen where
 Clock : Int
 Waits : List TWait
 Done : List TStamp
 deriving Inhabited, DecidableEq
structure TCommand where
 Kind : Int
 Message : TMessage
 Id : Int
 Time : Int
 Members : List Int
 Topic : Int
 Who : Int
 N : Int
 deriving Inhabited, DecidableEq
structure Tskeen_clock where
 Skeen : TSkeen
 deriving Inhabited, DecidableEq
def TMessage.d (x : TMessage) : D := .agg [.int .i64 x.Id, .imm 1 (x.Groups.map (D.int .i64)) 4, .int .i64 x.Topic, .str x.Key, .str x.Body]
def TMessage.n (x : TMessage) : D := .agg [.int .i64 x.Id, .imm 1 (x.Groups.map (D.int .i64)) 12, .int .i64 x.Topic, .str x.Key, .str x.Body]
theorem pln_TMessage : PlN TMessage.n TMessage.d := ⟨fun _ => rfl, fun _ => rfl, fun _ => by first | rfl | simp [TMessage.n, okM, okML, low3], fun _ => by first | rfl | simp [TMessage.n, okM, okML, new1]⟩
theorem ze5 (l : List TMessage) : mkML 1 (l.map TMessage.d) = l.map TMessage.n := zdv 1 (fun _ => rfl) l
def TWait.d (x : TWait) : D := .agg [.int .i64 x.Message.Id, .imm 1 (x.Message.Groups.map (D.int .i64)) 4, .int .i64 x.Message.Topic, .str x.Message.Key, .str x.Message.Body, .int .i64 x.Time, .bool x.Final]
def TWait.n (x : TWait) : D := .agg [.int .i64 x.Message.Id, .imm 1 (x.Message.Groups.map (D.int .i64)) 12, .int .i64 x.Message.Topic, .str x.Message.Key, .str x.Message.Body, .int .i64 x.Time, .bool x.Final]
theorem zgf : PlN TWait.n TWait.d := ⟨fun _ => rfl, fun _ => rfl, fun _ => by first | rfl | simp [TWait.n, okM, okML, low3], fun _ => by first | rfl | simp [TWait.n, okM, okML, new1]⟩
theorem zgg (l : List TWait) : mkML 1 (l.map TWait.d) = l.map TWait.n := zdv 1 (fun _ => rfl) l
def TStamp.d (x : TStamp) : D := .agg [.int .i64 x.Time, .int .i64 x.Id]
theorem zjo : Pl TStamp.d := ⟨fun _ => rfl, fun _ => rfl, fun q h _ => by first | rfl | simp [TStamp.d, okM, okML, h]⟩
theorem zfg (l : List TStamp) : mkML 1 (l.map TStamp.d) = l.map TStamp.d := zdv 1 (fun _ => rfl) l
theorem zhh : Pl0 TStamp.d := ⟨zjo, fun _ _ => rfl⟩
def TSkeen.d (x : TSkeen) : D := .agg [.int .i64 x.Clock, .imm 7 (x.Waits.map TWait.d) 4, .imm 2 (x.Done.map TStamp.d) 4]
def TSkeen.n (x : TSkeen) : D := .agg [.int .i64 x.Clock, .imm 7 (x.Waits.map TWait.d) 12, .imm 2 (x.Done.map TStamp.d) 12]
theorem zfh (l : List TSkeen) : mkML 1 (l.map TSkeen.d) = l.map TSkeen.n := zdv 1 (fun _ => rfl) l
def TCommand.d (x : TCommand) : D := .agg [.int .u8 x.Kind, .int .i64 x.Message.Id, .imm 1 (x.Message.Groups.map (D.int .i64)) 4, .int .i64 x.Message.Topic, .str x.Message.Key, .str x.Message.Body, .int .i64 x.Id, .int .i64 x.Time, .imm 1 (x.Members.map (D.int .i64)) 4, .int .i64 x.Topic, .int .i64 x.Who, .int .i64 x.N]
def TCommand.n (x : TCommand) : D := .agg [.int .u8 x.Kind, .int .i64 x.Message.Id, .imm 1 (x.Message.Groups.map (D.int .i64)) 12, .int .i64 x.Message.Topic, .str x.Message.Key, .str x.Message.Body, .int .i64 x.Id, .int .i64 x.Time, .imm 1 (x.Members.map (D.int .i64)) 12, .int .i64 x.Topic, .int .i64 x.Who, .int .i64 x.N]
theorem pln_TCommand : PlN TCommand.n TCommand.d := ⟨fun _ => rfl, fun _ => rfl, fun _ => by first | rfl | simp [TCommand.n, okM, okML, low3], fun _ => by first | rfl | simp [TCommand.n, okM, okML, new1]⟩
theorem ze6 (l : List TCommand) : mkML 1 (l.map TCommand.d) = l.map TCommand.n := zdv 1 (fun _ => rfl) l
def Tskeen_clock.d (x : Tskeen_clock) : D := .agg [.int .i64 x.Skeen.Clock, .imm 7 (x.Skeen.Waits.map TWait.d) 4, .imm 2 (x.Skeen.Done.map TStamp.d) 4]
def Tskeen_clock.n (x : Tskeen_clock) : D := .agg [.int .i64 x.Skeen.Clock, .imm 7 (x.Skeen.Waits.map TWait.d) 12, .imm 2 (x.Skeen.Done.map TStamp.d) 12]
theorem zcp (l : List Tskeen_clock) : mkML 1 (l.map Tskeen_clock.d) = l.map Tskeen_clock.n := zdv 1 (fun _ => rfl) l
end Go.Proofs
end
section
namespace Go.Proofs
open Go.Tm
structure Torder_step where
 fC : TCommand
 fBefore : TSkeen
 fAfter : TSkeen
 fOut : List TMessage
 deriving Inhabited, DecidableEq
structure Torder_given where
 fTime : Int
 fM : TMessage
 deriving Inhabited, DecidableEq
structure Tcommand_reader where
 fB : List Int
 fOk : Bool
 deriving Inhabited, DecidableEq
def Torder_step.d (x : Torder_step) : D := .agg [.int .u8 x.fC.Kind, .int .i64 x.fC.Message.Id, .imm 1 (x.fC.Message.Groups.map (D.int .i64)) 4, .int .i64 x.fC.Message.Topic, .str x.fC.Message.Key, .str x.fC.Message.Body, .int .i64 x.fC.Id, .int .i64 x.fC.Time, .imm 1 (x.fC.Members.map (D.int .i64)) 4, .int .i64 x.fC.Topic, .int .i64 x.fC.Who, .int .i64 x.fC.N, .int .i64 x.fBefore.Clock, .imm 7 (x.fBefore.Waits.map TWait.d) 4, .imm 2 (x.fBefore.Done.map TStamp.d) 4, .int .i64 x.fAfter.Clock, .imm 7 (x.fAfter.Waits.map TWait.d) 4, .imm 2 (x.fAfter.Done.map TStamp.d) 4, .imm 5 (x.fOut.map TMessage.d) 4]
def Torder_step.n (x : Torder_step) : D := .agg [.int .u8 x.fC.Kind, .int .i64 x.fC.Message.Id, .imm 1 (x.fC.Message.Groups.map (D.int .i64)) 12, .int .i64 x.fC.Message.Topic, .str x.fC.Message.Key, .str x.fC.Message.Body, .int .i64 x.fC.Id, .int .i64 x.fC.Time, .imm 1 (x.fC.Members.map (D.int .i64)) 12, .int .i64 x.fC.Topic, .int .i64 x.fC.Who, .int .i64 x.fC.N, .int .i64 x.fBefore.Clock, .imm 7 (x.fBefore.Waits.map TWait.d) 12, .imm 2 (x.fBefore.Done.map TStamp.d) 12, .int .i64 x.fAfter.Clock, .imm 7 (x.fAfter.Waits.map TWait.d) 12, .imm 2 (x.fAfter.Done.map TStamp.d) 12, .imm 5 (x.fOut.map TMessage.d) 12]
theorem zfo (l : List Torder_step) : mkML 1 (l.map Torder_step.d) = l.map Torder_step.n := zdv 1 (fun _ => rfl) l
def Torder_given.d (x : Torder_given) : D := .agg [.int .i64 x.fTime, .int .i64 x.fM.Id, .imm 1 (x.fM.Groups.map (D.int .i64)) 4, .int .i64 x.fM.Topic, .str x.fM.Key, .str x.fM.Body]
def Torder_given.n (x : Torder_given) : D := .agg [.int .i64 x.fTime, .int .i64 x.fM.Id, .imm 1 (x.fM.Groups.map (D.int .i64)) 12, .int .i64 x.fM.Topic, .str x.fM.Key, .str x.fM.Body]
theorem zjb : PlN Torder_given.n Torder_given.d := ⟨fun _ => rfl, fun _ => rfl, fun _ => by first | rfl | simp [Torder_given.n, okM, okML, low3], fun _ => by first | rfl | simp [Torder_given.n, okM, okML, new1]⟩
theorem zf8 (l : List Torder_given) : mkML 1 (l.map Torder_given.d) = l.map Torder_given.n := zdv 1 (fun _ => rfl) l
def Tcommand_reader.d (x : Tcommand_reader) : D := .agg [.imm 1 (x.fB.map (D.int .u8)) 4, .bool x.fOk]
def Tcommand_reader.n (x : Tcommand_reader) : D := .agg [.imm 1 (x.fB.map (D.int .u8)) 12, .bool x.fOk]
theorem ze9 (l : List Tcommand_reader) : mkML 1 (l.map Tcommand_reader.d) = l.map Tcommand_reader.n := zdv 1 (fun _ => rfl) l
def dL_str (l : List (List UInt8)) : D := .imm 1 (l.map D.str) 4
theorem pl_dL_str : Pl dL_str := ⟨fun _ => rfl, fun _ => rfl, fun q h _ => by simp only [dL_str, okM, h, Bool.true_or]⟩
def nL_str (l : List (List UInt8)) : D := .imm 1 (l.map D.str) 12
theorem zk3 (l : List (List (List UInt8))) : mkML 1 (l.map dL_str) = l.map nL_str := zdv 1 (fun _ => rfl) l
def dL_Torder_givend (l : List Torder_given) : D := .imm 6 (l.map Torder_given.d) 4
def nL_Torder_givend (l : List Torder_given) : D := .imm 6 (l.map Torder_given.d) 12
theorem zka : PlN nL_Torder_givend dL_Torder_givend := ⟨fun _ => rfl, fun _ => rfl, fun _ => rfl, fun _ => rfl⟩
theorem zdw (l : List (List Torder_given)) : mkML 1 (l.map dL_Torder_givend) = l.map nL_Torder_givend := zdv 1 (fun _ => rfl) l
def zij (l : List TStamp) : D := .imm 2 (l.map TStamp.d) 4
def nL_TStampd (l : List TStamp) : D := .imm 2 (l.map TStamp.d) 12
theorem zga (l : List (List TStamp)) : mkML 1 (l.map zij) = l.map nL_TStampd := zdv 1 (fun _ => rfl) l
def zgp (l : List TMessage) : D := .imm 5 (l.map TMessage.d) 4
def nL_TMessaged (l : List TMessage) : D := .imm 5 (l.map TMessage.d) 12
theorem zf7 (l : List (List TMessage)) : mkML 1 (l.map zgp) = l.map nL_TMessaged := zdv 1 (fun _ => rfl) l
end Go.Proofs
end
section
namespace Go.Proofs
open Go.Tm
def Try.tmL : List (Nat × TI) := [
 (1, { kind := 1, size := 1, offs := [], zero := [.nilfn], el := 0, esz := 0, eby := 0, eagg := false, ik := none, eqs := false, ezero := [] }),
 (2, { kind := 6, size := 1, offs := [], zero := [.int .i64 0], el := 0, esz := 0, eby := 0, eagg := false, ik := some .i64, eqs := false, ezero := [] }),
 (3, { kind := 6, size := 1, offs := [], zero := [.int .i64 0], el := 0, esz := 0, eby := 0, eagg := false, ik := some .i64, eqs := false, ezero := [] }),
 (4, { kind := 8, size := 1, offs := [], zero := [.bool false], el := 0, esz := 0, eby := 0, eagg := false, ik := none, eqs := false, ezero := [] }),
 (5, { kind := 6, size := 1, offs := [], zero := [.int .u8 0], el := 0, esz := 0, eby := 0, eagg := false, ik := some .u8, eqs := false, ezero := [] }),
 (6, { kind := 6, size := 1, offs := [], zero := [.int .u8 0], el := 0, esz := 0, eby := 0, eagg := false, ik := some .u8, eqs := false, ezero := [] }),
 (7, { kind := 2, size := 4, offs := [(0, 1, false), (1, 1, false), (2, 1, false), (3, 1, false)], zero := [.int .i64 0, .int .i64 0, .bool false, .int .u8 0], el := 0, esz := 0, eby := 0, eagg := false, ik := none, eqs := false, ezero := [] }),
 (8, { kind := 2, size := 4, offs := [(0, 1, false), (1, 1, false), (2, 1, false), (3, 1, false)], zero := [.int .i64 0, .int .i64 0, .bool false, .int .u8 0], el := 0, esz := 0, eby := 0, eagg := false, ik := none, eqs := false, ezero := [] }),
 (9, { kind := 5, size := 1, offs := [], zero := [.str []], el := 0, esz := 0, eby := 0, eagg := false, ik := none, eqs := false, ezero := [] }),
 (10, { kind := 5, size := 1, offs := [], zero := [.str []], el := 0, esz := 0, eby := 0, eagg := false, ik := none, eqs := false, ezero := [] }),
 (11, { kind := 5, size := 1, offs := [], zero := [.str []], el := 0, esz := 0, eby := 0, eagg := false, ik := none, eqs := false, ezero := [] }),
 (12, { kind := 6, size := 1, offs := [], zero := [.int .u64 0], el := 0, esz := 0, eby := 0, eagg := false, ik := some .u64, eqs := false, ezero := [] }),
 (13, { kind := 2, size := 2, offs := [(0, 1, false), (1, 1, false)], zero := [.str [], .int .u64 0], el := 0, esz := 0, eby := 0, eagg := false, ik := none, eqs := false, ezero := [] }),
 (14, { kind := 2, size := 2, offs := [(0, 1, false), (1, 1, false)], zero := [.str [], .int .u64 0], el := 0, esz := 0, eby := 0, eagg := false, ik := none, eqs := false, ezero := [] }),
 (15, { kind := 1, size := 1, offs := [], zero := [.nilptr], el := 0, esz := 0, eby := 0, eagg := false, ik := none, eqs := false, ezero := [] }),
 (16, { kind := 1, size := 1, offs := [], zero := [.nilptr], el := 0, esz := 0, eby := 0, eagg := false, ik := none, eqs := false, ezero := [] }),
 (17, { kind := 1, size := 1, offs := [], zero := [.nilptr], el := 0, esz := 0, eby := 0, eagg := false, ik := none, eqs := false, ezero := [] }),
 (18, { kind := 2, size := 1, offs := [(0, 1, false)], zero := [.nilptr], el := 0, esz := 0, eby := 0, eagg := false, ik := none, eqs := false, ezero := [] }),
 (19, { kind := 2, size := 1, offs := [(0, 1, false)], zero := [.nilptr], el := 0, esz := 0, eby := 0, eagg := false, ik := none, eqs := false, ezero := [] }),
 (20, { kind := 7, size := 1, offs := [], zero := [.nilIface], el := 0, esz := 0, eby := 0, eagg := false, ik := none, eqs := false, ezero := [] }),
 (21, { kind := 6, size := 1, offs := [], zero := [.int .i32 0], el := 0, esz := 0, eby := 0, eagg := false, ik := some .i32, eqs := false, ezero := [] }),
 (22, { kind := 3, size := 1, offs := [], zero := [.imm 0 [] 0], el := 36, esz := 1, eby := 24, eagg := false, ik := none, eqs := false, ezero := [.imm 0 [] 0] }),
 (23, { kind := 3, size := 1, offs := [], zero := [.imm 0 [] 0], el := 3, esz := 1, eby := 8, eagg := false, ik := none, eqs := false, ezero := [.int .i64 0] }),
 (24, { kind := 2, size := 5, offs := [(0, 1, false), (1, 1, false), (2, 1, false), (3, 1, false), (4, 1, false)], zero := [.int .i64 0, .imm 0 [] 0, .int .i64 0, .str [], .str []], el := 0, esz := 0, eby := 0, eagg := false, ik := none, eqs := false, ezero := [] }),
 (25, { kind := 2, size := 5, offs := [(0, 1, false), (1, 1, false), (2, 1, false), (3, 1, false), (4, 1, false)], zero := [.int .i64 0, .imm 0 [] 0, .int .i64 0, .str [], .str []], el := 0, esz := 0, eby := 0, eagg := false, ik := none, eqs := false, ezero := [] }),
 (26, { kind := 1, size := 1, offs := [], zero := [.nilfn], el := 0, esz := 0, eby := 0, eagg := false, ik := none, eqs := false, ezero := [] }),
 (27, { kind := 1, size := 1, offs := [], zero := [.nilfn], el := 0, esz := 0, eby := 0, eagg := false, ik := none, eqs := false, ezero := [] }),
 (28, { kind := 6, size := 1, offs := [], zero := [.int .i64 0], el := 0, esz := 0, eby := 0, eagg := false, ik := some .i64, eqs := false, ezero := [] }),
 (30, { kind := 1, size := 1, offs := [], zero := [.nilfn], el := 0, esz := 0, eby := 0, eagg := false, ik := none, eqs := false, ezero := [] }),
 (32, { kind := 1, size := 1, offs := [], zero := [.nilfn], el := 0, esz := 0, eby := 0, eagg := false, ik := none, eqs := false, ezero := [] }),
 (33, { kind := 3, size := 1, offs := [], zero := [.imm 0 [] 0], el := 38, esz := 2, eby := 16, eagg := true, ik := none, eqs := false, ezero := [.int .i64 0, .int .i64 0] }),
 (35, { kind := 1, size := 1, offs := [], zero := [.nilfn], el := 0, esz := 0, eby := 0, eagg := false, ik := none, eqs := false, ezero := [] }),
 (36, { kind := 3, size := 1, offs := [], zero := [.imm 0 [] 0], el := 9, esz := 1, eby := 16, eagg := false, ik := none, eqs := false, ezero := [.str []] }),
 (37, { kind := 2, size := 2, offs := [(0, 1, false), (1, 1, false)], zero := [.int .i64 0, .int .i64 0], el := 0, esz := 0, eby := 0, eagg := false, ik := none, eqs := false, ezero := [] }),
 (38, { kind := 2, size := 2, offs := [(0, 1, false), (1, 1, false)], zero := [.int .i64 0, .int .i64 0], el := 0, esz := 0, eby := 0, eagg := false, ik := none, eqs := true, ezero := [] }),
 (39, { kind := 1, size := 1, offs := [], zero := [.nilfn], el := 0, esz := 0, eby := 0, eagg := false, ik := none, eqs := false, ezero := [] }),
 (40, { kind := 1, size := 1, offs := [], zero := [.nilfn], el := 0, esz := 0, eby := 0, eagg := false, ik := none, eqs := false, ezero := [] }),
 (41, { kind := 3, size := 1, offs := [], zero := [.imm 0 [] 0], el := 33, esz := 1, eby := 24, eagg := false, ik := none, eqs := false, ezero := [.imm 0 [] 0] }),
 (42, { kind := 3, size := 1, offs := [], zero := [.imm 0 [] 0], el := 46, esz := 1, eby := 24, eagg := false, ik := none, eqs := false, ezero := [.imm 0 [] 0] }),
 (43, { kind := 3, size := 1, offs := [], zero := [.imm 0 [] 0], el := 69, esz := 7, eby := 88, eagg := true, ik := none, eqs := false, ezero := [.int .i64 0, .imm 0 [] 0, .int .i64 0, .str [], .str [], .int .i64 0, .bool false] }),
 (44, { kind := 2, size := 3, offs := [(0, 1, false), (1, 1, false), (2, 1, false)], zero := [.int .i64 0, .imm 0 [] 0, .imm 0 [] 0], el := 0, esz := 0, eby := 0, eagg := false, ik := none, eqs := false, ezero := [] }),
 (45, { kind := 2, size := 3, offs := [(0, 1, false), (1, 1, false), (2, 1, false)], zero := [.int .i64 0, .imm 0 [] 0, .imm 0 [] 0], el := 0, esz := 0, eby := 0, eagg := false, ik := none, eqs := false, ezero := [] }),
 (46, { kind := 3, size := 1, offs := [], zero := [.imm 0 [] 0], el := 25, esz := 5, eby := 72, eagg := true, ik := none, eqs := false, ezero := [.int .i64 0, .imm 0 [] 0, .int .i64 0, .str [], .str []] }),
 (48, { kind := 1, size := 1, offs := [], zero := [.nilfn], el := 0, esz := 0, eby := 0, eagg := false, ik := none, eqs := false, ezero := [] }),
 (49, { kind := 1, size := 1, offs := [], zero := [.nilfn], el := 0, esz := 0, eby := 0, eagg := false, ik := none, eqs := false, ezero := [] }),
 (50, { kind := 1, size := 1, offs := [], zero := [.nilfn], el := 0, esz := 0, eby := 0, eagg := false, ik := none, eqs := false, ezero := [] }),
 (51, { kind := 1, size := 1, offs := [], zero := [.nilfn], el := 0, esz := 0, eby := 0, eagg := false, ik := none, eqs := false, ezero := [] }),
 (52, { kind := 1, size := 1, offs := [], zero := [.nilfn], el := 0, esz := 0, eby := 0, eagg := false, ik := none, eqs := false, ezero := [] }),
 (53, { kind := 3, size := 1, offs := [], zero := [.imm 0 [] 0], el := 72, esz := 1, eby := 24, eagg := false, ik := none, eqs := false, ezero := [.imm 0 [] 0] }),
 (54, { kind := 3, size := 1, offs := [], zero := [.imm 0 [] 0], el := 72, esz := 1, eby := 24, eagg := false, ik := none, eqs := false, ezero := [.imm 0 [] 0] }),
 (56, { kind := 1, size := 1, offs := [], zero := [.nilfn], el := 0, esz := 0, eby := 0, eagg := false, ik := none, eqs := false, ezero := [] }),
 (57, { kind := 1, size := 1, offs := [], zero := [.nilfn], el := 0, esz := 0, eby := 0, eagg := false, ik := none, eqs := false, ezero := [] }),
 (59, { kind := 1, size := 1, offs := [], zero := [.nilfn], el := 0, esz := 0, eby := 0, eagg := false, ik := none, eqs := false, ezero := [] }),
 (61, { kind := 1, size := 1, offs := [], zero := [.nilfn], el := 0, esz := 0, eby := 0, eagg := false, ik := none, eqs := false, ezero := [] }),
 (62, { kind := 2, size := 12, offs := [(0, 1, false), (1, 5, true), (6, 1, false), (7, 1, false), (8, 1, false), (9, 1, false), (10, 1, false), (11, 1, false)], zero := [.int .u8 0, .int .i64 0, .imm 0 [] 0, .int .i64 0, .str [], .str [], .int .i64 0, .int .i64 0, .imm 0 [] 0, .int .i64 0, .int .i64 0, .int .i64 0], el := 0, esz := 0, eby := 0, eagg := false, ik := none, eqs := false, ezero := [] }),
 (63, { kind := 2, size := 12, offs := [(0, 1, false), (1, 5, true), (6, 1, false), (7, 1, false), (8, 1, false), (9, 1, false), (10, 1, false), (11, 1, false)], zero := [.int .u8 0, .int .i64 0, .imm 0 [] 0, .int .i64 0, .str [], .str [], .int .i64 0, .int .i64 0, .imm 0 [] 0, .int .i64 0, .int .i64 0, .int .i64 0], el := 0, esz := 0, eby := 0, eagg := false, ik := none, eqs := false, ezero := [] }),
 (64, { kind := 2, size := 19, offs := [(0, 12, true), (12, 3, true), (15, 3, true), (18, 1, false)], zero := [.int .u8 0, .int .i64 0, .imm 0 [] 0, .int .i64 0, .str [], .str [], .int .i64 0, .int .i64 0, .imm 0 [] 0, .int .i64 0, .int .i64 0, .int .i64 0, .int .i64 0, .imm 0 [] 0, .imm 0 [] 0, .int .i64 0, .imm 0 [] 0, .imm 0 [] 0, .imm 0 [] 0], el := 0, esz := 0, eby := 0, eagg := false, ik := none, eqs := false, ezero := [] }),
 (65, { kind := 2, size := 19, offs := [(0, 12, true), (12, 3, true), (15, 3, true), (18, 1, false)], zero := [.int .u8 0, .int .i64 0, .imm 0 [] 0, .int .i64 0, .str [], .str [], .int .i64 0, .int .i64 0, .imm 0 [] 0, .int .i64 0, .int .i64 0, .int .i64 0, .int .i64 0, .imm 0 [] 0, .imm 0 [] 0, .int .i64 0, .imm 0 [] 0, .imm 0 [] 0, .imm 0 [] 0], el := 0, esz := 0, eby := 0, eagg := false, ik := none, eqs := false, ezero := [] }),
 (66, { kind := 1, size := 1, offs := [], zero := [.nilfn], el := 0, esz := 0, eby := 0, eagg := false, ik := none, eqs := false, ezero := [] }),
 (67, { kind := 1, size := 1, offs := [], zero := [.nilfn], el := 0, esz := 0, eby := 0, eagg := false, ik := none, eqs := false, ezero := [] }),
 (68, { kind := 2, size := 7, offs := [(0, 5, true), (5, 1, false), (6, 1, false)], zero := [.int .i64 0, .imm 0 [] 0, .int .i64 0, .str [], .str [], .int .i64 0, .bool false], el := 0, esz := 0, eby := 0, eagg := false, ik := none, eqs := false, ezero := [] }),
 (69, { kind := 2, size := 7, offs := [(0, 5, true), (5, 1, false), (6, 1, false)], zero := [.int .i64 0, .imm 0 [] 0, .int .i64 0, .str [], .str [], .int .i64 0, .bool false], el := 0, esz := 0, eby := 0, eagg := false, ik := none, eqs := false, ezero := [] }),
 (70, { kind := 1, size := 1, offs := [], zero := [.nilfn], el := 0, esz := 0, eby := 0, eagg := false, ik := none, eqs := false, ezero := [] }),
 (71, { kind := 1, size := 1, offs := [], zero := [.nilfn], el := 0, esz := 0, eby := 0, eagg := false, ik := none, eqs := false, ezero := [] }),
 (72, { kind := 3, size := 1, offs := [], zero := [.imm 0 [] 0], el := 76, esz := 6, eby := 80, eagg := true, ik := none, eqs := false, ezero := [.int .i64 0, .int .i64 0, .imm 0 [] 0, .int .i64 0, .str [], .str []] }),
 (74, { kind := 1, size := 1, offs := [], zero := [.nilfn], el := 0, esz := 0, eby := 0, eagg := false, ik := none, eqs := false, ezero := [] }),
 (75, { kind := 2, size := 6, offs := [(0, 1, false), (1, 5, true)], zero := [.int .i64 0, .int .i64 0, .imm 0 [] 0, .int .i64 0, .str [], .str []], el := 0, esz := 0, eby := 0, eagg := false, ik := none, eqs := false, ezero := [] }),
 (76, { kind := 2, size := 6, offs := [(0, 1, false), (1, 5, true)], zero := [.int .i64 0, .int .i64 0, .imm 0 [] 0, .int .i64 0, .str [], .str []], el := 0, esz := 0, eby := 0, eagg := false, ik := none, eqs := false, ezero := [] }),
 (78, { kind := 1, size := 1, offs := [], zero := [.nilfn], el := 0, esz := 0, eby := 0, eagg := false, ik := none, eqs := false, ezero := [] }),
 (79, { kind := 1, size := 1, offs := [], zero := [.nilfn], el := 0, esz := 0, eby := 0, eagg := false, ik := none, eqs := false, ezero := [] }),
 (80, { kind := 9, size := 1, offs := [], zero := [.nilmap], el := 3, esz := 1, eby := 0, eagg := false, ik := none, eqs := false, ezero := [.int .i64 0] }),
 (81, { kind := 1, size := 1, offs := [], zero := [.nilfn], el := 0, esz := 0, eby := 0, eagg := false, ik := none, eqs := false, ezero := [] }),
 (82, { kind := 1, size := 1, offs := [], zero := [.nilfn], el := 0, esz := 0, eby := 0, eagg := false, ik := none, eqs := false, ezero := [] }),
 (83, { kind := 1, size := 1, offs := [], zero := [.nilfn], el := 0, esz := 0, eby := 0, eagg := false, ik := none, eqs := false, ezero := [] }),
 (84, { kind := 1, size := 1, offs := [], zero := [.nilfn], el := 0, esz := 0, eby := 0, eagg := false, ik := none, eqs := false, ezero := [] }),
 (85, { kind := 1, size := 1, offs := [], zero := [.nilfn], el := 0, esz := 0, eby := 0, eagg := false, ik := none, eqs := false, ezero := [] }),
 (86, { kind := 1, size := 1, offs := [], zero := [.nilfn], el := 0, esz := 0, eby := 0, eagg := false, ik := none, eqs := false, ezero := [] }),
 (87, { kind := 1, size := 1, offs := [], zero := [.nilfn], el := 0, esz := 0, eby := 0, eagg := false, ik := none, eqs := false, ezero := [] }),
 (88, { kind := 1, size := 1, offs := [], zero := [.nilfn], el := 0, esz := 0, eby := 0, eagg := false, ik := none, eqs := false, ezero := [] }),
 (89, { kind := 9, size := 1, offs := [], zero := [.nilmap], el := 3, esz := 5, eby := 0, eagg := true, ik := none, eqs := false, ezero := [.int .i64 0, .imm 0 [] 0, .int .i64 0, .str [], .str []] }),
 (90, { kind := 1, size := 1, offs := [], zero := [.nilfn], el := 0, esz := 0, eby := 0, eagg := false, ik := none, eqs := false, ezero := [] }),
 (92, { kind := 3, size := 1, offs := [], zero := [.imm 0 [] 0], el := 63, esz := 12, eby := 144, eagg := true, ik := none, eqs := false, ezero := [.int .u8 0, .int .i64 0, .imm 0 [] 0, .int .i64 0, .str [], .str [], .int .i64 0, .int .i64 0, .imm 0 [] 0, .int .i64 0, .int .i64 0, .int .i64 0] }),
 (94, { kind := 1, size := 1, offs := [], zero := [.nilfn], el := 0, esz := 0, eby := 0, eagg := false, ik := none, eqs := false, ezero := [] }),
 (95, { kind := 1, size := 1, offs := [], zero := [.nilfn], el := 0, esz := 0, eby := 0, eagg := false, ik := none, eqs := false, ezero := [] }),
 (96, { kind := 1, size := 1, offs := [], zero := [.nilfn], el := 0, esz := 0, eby := 0, eagg := false, ik := none, eqs := false, ezero := [] }),
 (97, { kind := 1, size := 1, offs := [], zero := [.nilfn], el := 0, esz := 0, eby := 0, eagg := false, ik := none, eqs := false, ezero := [] }),
 (98, { kind := 1, size := 1, offs := [], zero := [.nilfn], el := 0, esz := 0, eby := 0, eagg := false, ik := none, eqs := false, ezero := [] }),
 (99, { kind := 1, size := 1, offs := [], zero := [.nilfn], el := 0, esz := 0, eby := 0, eagg := false, ik := none, eqs := false, ezero := [] }),
 (100, { kind := 1, size := 1, offs := [], zero := [.nilfn], el := 0, esz := 0, eby := 0, eagg := false, ik := none, eqs := false, ezero := [] }),
 (101, { kind := 1, size := 1, offs := [], zero := [.nilfn], el := 0, esz := 0, eby := 0, eagg := false, ik := none, eqs := false, ezero := [] }),
 (102, { kind := 1, size := 1, offs := [], zero := [.nilfn], el := 0, esz := 0, eby := 0, eagg := false, ik := none, eqs := false, ezero := [] }),
 (103, { kind := 1, size := 1, offs := [], zero := [.nilfn], el := 0, esz := 0, eby := 0, eagg := false, ik := none, eqs := false, ezero := [] }),
 (104, { kind := 1, size := 1, offs := [], zero := [.nilfn], el := 0, esz := 0, eby := 0, eagg := false, ik := none, eqs := false, ezero := [] }),
 (105, { kind := 1, size := 1, offs := [], zero := [.nilfn], el := 0, esz := 0, eby := 0, eagg := false, ik := none, eqs := false, ezero := [] }),
 (107, { kind := 1, size := 1, offs := [], zero := [.nilfn], el := 0, esz := 0, eby := 0, eagg := false, ik := none, eqs := false, ezero := [] }),
 (108, { kind := 1, size := 1, offs := [], zero := [.nilfn], el := 0, esz := 0, eby := 0, eagg := false, ik := none, eqs := false, ezero := [] }),
 (109, { kind := 1, size := 1, offs := [], zero := [.nilptr], el := 0, esz := 0, eby := 0, eagg := false, ik := none, eqs := false, ezero := [] }),
 (110, { kind := 2, size := 3, offs := [(0, 3, true)], zero := [.int .i64 0, .imm 0 [] 0, .imm 0 [] 0], el := 0, esz := 0, eby := 0, eagg := false, ik := none, eqs := false, ezero := [] }),
 (111, { kind := 2, size := 3, offs := [(0, 3, true)], zero := [.int .i64 0, .imm 0 [] 0, .imm 0 [] 0], el := 0, esz := 0, eby := 0, eagg := false, ik := none, eqs := false, ezero := [] }),
 (112, { kind := 1, size := 1, offs := [], zero := [.nilfn], el := 0, esz := 0, eby := 0, eagg := false, ik := none, eqs := false, ezero := [] }),
 (113, { kind := 1, size := 1, offs := [], zero := [.nilfn], el := 0, esz := 0, eby := 0, eagg := false, ik := none, eqs := false, ezero := [] }),
 (114, { kind := 1, size := 1, offs := [], zero := [.nilfn], el := 0, esz := 0, eby := 0, eagg := false, ik := none, eqs := false, ezero := [] }),
 (115, { kind := 1, size := 1, offs := [], zero := [.nilfn], el := 0, esz := 0, eby := 0, eagg := false, ik := none, eqs := false, ezero := [] }),
 (116, { kind := 1, size := 1, offs := [], zero := [.nilfn], el := 0, esz := 0, eby := 0, eagg := false, ik := none, eqs := false, ezero := [] }),
 (117, { kind := 1, size := 1, offs := [], zero := [.nilfn], el := 0, esz := 0, eby := 0, eagg := false, ik := none, eqs := false, ezero := [] }),
 (119, { kind := 1, size := 1, offs := [], zero := [.nilfn], el := 0, esz := 0, eby := 0, eagg := false, ik := none, eqs := false, ezero := [] }),
 (120, { kind := 1, size := 1, offs := [], zero := [.nilfn], el := 0, esz := 0, eby := 0, eagg := false, ik := none, eqs := false, ezero := [] }),
 (121, { kind := 3, size := 1, offs := [], zero := [.imm 0 [] 0], el := 5, esz := 1, eby := 1, eagg := false, ik := none, eqs := false, ezero := [.int .u8 0] }),
 (123, { kind := 1, size := 1, offs := [], zero := [.nilfn], el := 0, esz := 0, eby := 0, eagg := false, ik := none, eqs := false, ezero := [] }),
 (124, { kind := 1, size := 1, offs := [], zero := [.nilfn], el := 0, esz := 0, eby := 0, eagg := false, ik := none, eqs := false, ezero := [] }),
 (125, { kind := 1, size := 1, offs := [], zero := [.nilfn], el := 0, esz := 0, eby := 0, eagg := false, ik := none, eqs := false, ezero := [] }),
 (126, { kind := 1, size := 1, offs := [], zero := [.nilfn], el := 0, esz := 0, eby := 0, eagg := false, ik := none, eqs := false, ezero := [] }),
 (127, { kind := 1, size := 1, offs := [], zero := [.nilfn], el := 0, esz := 0, eby := 0, eagg := false, ik := none, eqs := false, ezero := [] }),
 (128, { kind := 1, size := 1, offs := [], zero := [.nilfn], el := 0, esz := 0, eby := 0, eagg := false, ik := none, eqs := false, ezero := [] }),
 (129, { kind := 1, size := 1, offs := [], zero := [.nilptr], el := 0, esz := 0, eby := 0, eagg := false, ik := none, eqs := false, ezero := [] }),
 (130, { kind := 2, size := 2, offs := [(0, 1, false), (1, 1, false)], zero := [.imm 0 [] 0, .bool false], el := 0, esz := 0, eby := 0, eagg := false, ik := none, eqs := false, ezero := [] }),
 (131, { kind := 2, size := 2, offs := [(0, 1, false), (1, 1, false)], zero := [.imm 0 [] 0, .bool false], el := 0, esz := 0, eby := 0, eagg := false, ik := none, eqs := false, ezero := [] }),
 (132, { kind := 1, size := 1, offs := [], zero := [.nilfn], el := 0, esz := 0, eby := 0, eagg := false, ik := none, eqs := false, ezero := [] }),
 (133, { kind := 1, size := 1, offs := [], zero := [.nilfn], el := 0, esz := 0, eby := 0, eagg := false, ik := none, eqs := false, ezero := [] }),
 (134, { kind := 1, size := 1, offs := [], zero := [.nilfn], el := 0, esz := 0, eby := 0, eagg := false, ik := none, eqs := false, ezero := [] }),
 (135, { kind := 1, size := 1, offs := [], zero := [.nilfn], el := 0, esz := 0, eby := 0, eagg := false, ik := none, eqs := false, ezero := [] }),
 (136, { kind := 1, size := 1, offs := [], zero := [.nilfn], el := 0, esz := 0, eby := 0, eagg := false, ik := none, eqs := false, ezero := [] }),
 (137, { kind := 1, size := 1, offs := [], zero := [.nilfn], el := 0, esz := 0, eby := 0, eagg := false, ik := none, eqs := false, ezero := [] }),
 (138, { kind := 1, size := 1, offs := [], zero := [.nilfn], el := 0, esz := 0, eby := 0, eagg := false, ik := none, eqs := false, ezero := [] }),
 (139, { kind := 1, size := 1, offs := [], zero := [.nilfn], el := 0, esz := 0, eby := 0, eagg := false, ik := none, eqs := false, ezero := [] }),
 (140, { kind := 1, size := 1, offs := [], zero := [.nilfn], el := 0, esz := 0, eby := 0, eagg := false, ik := none, eqs := false, ezero := [] }),
 (141, { kind := 1, size := 1, offs := [], zero := [.nilfn], el := 0, esz := 0, eby := 0, eagg := false, ik := none, eqs := false, ezero := [] }),
 (142, { kind := 1, size := 1, offs := [], zero := [.nilfn], el := 0, esz := 0, eby := 0, eagg := false, ik := none, eqs := false, ezero := [] }),
 (143, { kind := 1, size := 1, offs := [], zero := [.nilfn], el := 0, esz := 0, eby := 0, eagg := false, ik := none, eqs := false, ezero := [] }),
 (144, { kind := 1, size := 1, offs := [], zero := [.nilfn], el := 0, esz := 0, eby := 0, eagg := false, ik := none, eqs := false, ezero := [] }),
 (145, { kind := 1, size := 1, offs := [], zero := [.nilfn], el := 0, esz := 0, eby := 0, eagg := false, ik := none, eqs := false, ezero := [] }),
 (146, { kind := 1, size := 1, offs := [], zero := [.nilfn], el := 0, esz := 0, eby := 0, eagg := false, ik := none, eqs := false, ezero := [] }),
 (147, { kind := 1, size := 1, offs := [], zero := [.nilfn], el := 0, esz := 0, eby := 0, eagg := false, ik := none, eqs := false, ezero := [] }),
 (148, { kind := 1, size := 1, offs := [], zero := [.nilfn], el := 0, esz := 0, eby := 0, eagg := false, ik := none, eqs := false, ezero := [] }),
 (149, { kind := 1, size := 1, offs := [], zero := [.nilfn], el := 0, esz := 0, eby := 0, eagg := false, ik := none, eqs := false, ezero := [] }),
 (150, { kind := 1, size := 1, offs := [], zero := [.nilfn], el := 0, esz := 0, eby := 0, eagg := false, ik := none, eqs := false, ezero := [] }),
 (151, { kind := 1, size := 1, offs := [], zero := [.nilfn], el := 0, esz := 0, eby := 0, eagg := false, ik := none, eqs := false, ezero := [] }),
 (152, { kind := 1, size := 1, offs := [], zero := [.nilfn], el := 0, esz := 0, eby := 0, eagg := false, ik := none, eqs := false, ezero := [] }),
 (153, { kind := 6, size := 1, offs := [], zero := [.int .u64 0], el := 0, esz := 0, eby := 0, eagg := false, ik := some .u64, eqs := false, ezero := [] }),
 (155, { kind := 1, size := 1, offs := [], zero := [.nilfn], el := 0, esz := 0, eby := 0, eagg := false, ik := none, eqs := false, ezero := [] }),
 (156, { kind := 1, size := 1, offs := [], zero := [.nilfn], el := 0, esz := 0, eby := 0, eagg := false, ik := none, eqs := false, ezero := [] }),
 (158, { kind := 1, size := 1, offs := [], zero := [.nilfn], el := 0, esz := 0, eby := 0, eagg := false, ik := none, eqs := false, ezero := [] }),
 (160, { kind := 1, size := 1, offs := [], zero := [.nilfn], el := 0, esz := 0, eby := 0, eagg := false, ik := none, eqs := false, ezero := [] }),
 (161, { kind := 1, size := 1, offs := [], zero := [.nilfn], el := 0, esz := 0, eby := 0, eagg := false, ik := none, eqs := false, ezero := [] }),
 (162, { kind := 1, size := 1, offs := [], zero := [.nilfn], el := 0, esz := 0, eby := 0, eagg := false, ik := none, eqs := false, ezero := [] }),
 (163, { kind := 2, size := 4, offs := [(0, 1, false), (1, 1, false), (2, 1, false), (3, 1, false)], zero := [.nilptr, .nilptr, .nilptr, .str []], el := 0, esz := 0, eby := 0, eagg := false, ik := none, eqs := false, ezero := [] }),
 (164, { kind := 2, size := 4, offs := [(0, 1, false), (1, 1, false), (2, 1, false), (3, 1, false)], zero := [.nilptr, .nilptr, .nilptr, .str []], el := 0, esz := 0, eby := 0, eagg := false, ik := none, eqs := false, ezero := [] }),
 (165, { kind := 4, size := 0, offs := [], zero := [], el := 0, esz := 0, eby := 0, eagg := false, ik := none, eqs := false, ezero := [] }),
 (168, { kind := 6, size := 1, offs := [], zero := [.int .u32 0], el := 0, esz := 0, eby := 0, eagg := false, ik := some .u32, eqs := false, ezero := [] }),
 (169, { kind := 6, size := 1, offs := [], zero := [.int .u8 0], el := 0, esz := 0, eby := 0, eagg := false, ik := some .u8, eqs := false, ezero := [] }),
 (170, { kind := 6, size := 1, offs := [], zero := [.int .u8 0], el := 0, esz := 0, eby := 0, eagg := false, ik := some .u8, eqs := false, ezero := [] }),
 (171, { kind := 1, size := 1, offs := [], zero := [.nilfn], el := 0, esz := 0, eby := 0, eagg := false, ik := none, eqs := false, ezero := [] }),
 (172, { kind := 1, size := 1, offs := [], zero := [.nilptr], el := 0, esz := 0, eby := 0, eagg := false, ik := none, eqs := false, ezero := [] }),
 (173, { kind := 6, size := 1, offs := [], zero := [.int .i32 0], el := 0, esz := 0, eby := 0, eagg := false, ik := some .i32, eqs := false, ezero := [] }),
 (174, { kind := 6, size := 1, offs := [], zero := [.int .i32 0], el := 0, esz := 0, eby := 0, eagg := false, ik := some .i32, eqs := false, ezero := [] }),
 (175, { kind := 2, size := 11, offs := [(0, 1, false), (1, 1, false), (2, 1, false), (3, 1, false), (4, 1, false), (5, 1, false), (6, 1, false), (7, 1, false), (8, 1, false), (9, 1, false), (10, 1, false)], zero := [.int .u64 0, .int .u64 0, .int .u32 0, .int .u8 0, .int .u8 0, .int .u8 0, .int .u8 0, .nilfn, .nilptr, .int .i32 0, .int .i32 0], el := 0, esz := 0, eby := 0, eagg := false, ik := none, eqs := false, ezero := [] }),
 (176, { kind := 2, size := 11, offs := [(0, 1, false), (1, 1, false), (2, 1, false), (3, 1, false), (4, 1, false), (5, 1, false), (6, 1, false), (7, 1, false), (8, 1, false), (9, 1, false), (10, 1, false)], zero := [.int .u64 0, .int .u64 0, .int .u32 0, .int .u8 0, .int .u8 0, .int .u8 0, .int .u8 0, .nilfn, .nilptr, .int .i32 0, .int .i32 0], el := 0, esz := 0, eby := 0, eagg := false, ik := none, eqs := false, ezero := [] })]
def Try.tm (t : Nat) : TI := match getL Try.tmL t with | some x => x | none => default
theorem Try.tmAll : (Try.tmL.all fun x => tiChk Try.prog x.1 x.2 && (!x.2.eqs || eqsChk Try.prog x.1 x.2)) = true := by kernel_rfl
theorem Try.tmOk : TabOk Try.prog Try.tm := tabOk_of Try.tmAll
theorem Try.tmMixed : Try.prog.follows .mixedOrders = true := by kernel_rfl
end Go.Proofs
end

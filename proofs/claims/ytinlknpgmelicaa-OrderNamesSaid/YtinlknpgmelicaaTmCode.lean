/- Rules for code: regions, sequences, branches, blocks, loops. -/
import Derived.Test.YtinlknpgmelicaaTmSched
namespace Go.Tm
open Go.RowKit Go.WideShapes

/-! ## States as lists -/
structure St where
  vars : List (Nat × D)
  heap : List (Nat × Blk)
  /-- ids from here on were never used -/
  nx : Nat

def put {α : Type} : List (Nat × α) → Nat → α → List (Nat × α)
  | [], t, y => [(t, y)]
  | (a, x) :: r, t, y => bif Nat.beq a t then (a, y) :: r else (a, x) :: put r t y
def del {α : Type} : List (Nat × α) → Nat → List (Nat × α)
  | [], _ => []
  | (a, x) :: r, t => bif Nat.beq a t then del r t else (a, x) :: del r t
def effL (h : List (Nat × Blk)) : List (Nat × Option Blk) → List (Nat × Blk)
  | [] => h
  | (a, some x) :: r => put (effL h r) a x
  | (a, none) :: r => del (effL h r) a
def keep {α : Type} (V : List Nat) : List (Nat × α) → List (Nat × α)
  | [] => []
  | (a, x) :: r => bif V.any (Nat.beq a) then (a, x) :: keep V r else keep V r

def getR (l : List (Nat × D)) (t : Nat) : D := match getL l t with
  | some d => d
  | none => .undef

def St.fs (lim : Nat) (st : St) : FrS := ⟨getR st.vars, getL st.heap, fun id => decide (st.nx ≤ id) && decide (id < lim)⟩

def St.app (st : St) (dst : Option Nat) (out : Out) : St :=
  ⟨match dst with | some t => put st.vars t out.d | none => st.vars, effL st.heap out.eff, bif Nat.blt out.nw.1 out.nw.2 then out.nw.2 else st.nx⟩

theorem getL_put {α : Type} (l : List (Nat × α)) (t : Nat) (y : α) (u : Nat) : getL (put l t y) u = if t = u then some y else getL l u := by
  induction l with
  | nil =>
    by_cases h : t = u
    · subst h; simp [put, getL]
    · simp [put, getL, beq_ne h, h]
  | cons x l ih =>
    obtain ⟨a, z⟩ := x
    simp only [put]
    cases hat : Nat.beq a t
    · simp only [cond_false, getL]
      cases hau : Nat.beq a u
      · simp only [cond_false]; exact ih
      · have := Nat.eq_of_beq_eq_true hau
        subst this
        have hne : t ≠ a := fun e => by subst e; simp at hat
        simp [hne]
    · have := Nat.eq_of_beq_eq_true hat
      subst this
      simp only [cond_true, getL]
      cases hau : Nat.beq a u
      · have hne : a ≠ u := fun e => by subst e; simp at hau
        simp [hne]
      · have := Nat.eq_of_beq_eq_true hau
        subst this
        simp

theorem getL_del {α : Type} (l : List (Nat × α)) (t u : Nat) : getL (del l t) u = if t = u then none else getL l u := by
  induction l with
  | nil => simp [del, getL]
  | cons x l ih =>
    obtain ⟨a, z⟩ := x
    simp only [del]
    cases hat : Nat.beq a t
    · simp only [cond_false, getL]
      cases hau : Nat.beq a u
      · simp only [cond_false]; exact ih
      · have := Nat.eq_of_beq_eq_true hau
        subst this
        have hne : t ≠ a := fun e => by subst e; simp at hat
        simp [hne]
    · have := Nat.eq_of_beq_eq_true hat
      subst this
      simp only [cond_true, getL]
      rw [ih]
      by_cases e : a = u
      · simp [e]
      · simp [e, beq_ne e]

theorem getL_effL (h : List (Nat × Blk)) (l : List (Nat × Option Blk)) : getL (effL h l) = effH (getL h) l := by
  induction l with
  | nil => simp only [effL]; rw [effH_nil]
  | cons x l ih =>
    obtain ⟨a, z⟩ := x
    funext t
    cases z with
    | some b =>
      simp only [effL, getL_put, ih, effH, getL]
      by_cases e : a = t
      · subst e; simp
      · simp [e, beq_ne e]
    | none =>
      simp only [effL, getL_del, ih, effH, getL]
      by_cases e : a = t
      · subst e; simp
      · simp [e, beq_ne e]

/-- the frame reads as the state, and leaves no fewer ids -/
def FrS.on (F : FrS) (lim : Nat) (st : St) : Prop := F.rd = getR st.vars ∧ F.hp = getL st.heap ∧ ∀ id, st.nx ≤ id → id < lim → F.nu id = true

theorem on_fs (lim : Nat) (st : St) : (st.fs lim).on lim st := ⟨rfl, rfl, fun id h1 h2 => by simp [St.fs, h1, h2]⟩

theorem on_app {F : FrS} {lim : Nat} {st : St} (h : F.on lim st) (o : Oper) (out : Out) (hn : ∀ id, out.nw.1 ≤ id → id < out.nw.2 → st.nx ≤ id) : (F.app o out).on lim (st.app o.dst out) := by
  obtain ⟨h1, h2, h3⟩ := h
  refine ⟨?_, ?_, ?_⟩
  · funext u
    simp only [FrS.app, FrS.put, FrS.eff, St.app, h1]
    cases o.dst with
    | none => simp
    | some t =>
      simp only [getR, getL_put]
      by_cases e : t = u
      · subst e; simp
      · have : (some t == some u) = false := by simpa using e
        simp [e, this]
  · simp only [app_hp, St.app, h2, getL_effL]
  · intro id k1 k2
    rw [app_nu]
    simp only [St.app] at k1
    simp only [effN, Bool.and_eq_true, Bool.not_eq_true', Bool.and_eq_false_iff, decide_eq_false_iff_not]
    cases hb : Nat.blt out.nw.1 out.nw.2
    · rw [hb] at k1
      refine ⟨h3 id k1 k2, ?_⟩
      have : ¬ out.nw.1 < out.nw.2 := by
        intro h
        have : Nat.blt out.nw.1 out.nw.2 = true := Nat.ble_eq_true_of_le h
        rw [hb] at this; cases this
      by_cases h : out.nw.1 ≤ id
      · right; omega
      · exact .inl h
    · rw [hb] at k1
      simp only [cond_true] at k1
      have hlt : out.nw.1 < out.nw.2 := Nat.le_of_ble_eq_true hb
      have := hn out.nw.1 (Nat.le_refl _) hlt
      exact ⟨h3 id (by omega) k2, .inr (by omega)⟩

theorem fires_on {P tab own} {ops : Array Oper} {o : Oper} {F : FrS} {lim : Nat} {st : St} {out : Out} (h : F.on lim st) (hf : Fires P tab own ops o (st.fs lim) out) : Fires P tab own ops o F out := by
  obtain ⟨h1, h2, h3⟩ := h
  refine fires_congr (F := st.fs lim) (fun t _ => by rw [h1]; rfl) (fun i _ => by rw [h2]; rfl) (fun i _ _ hi => ?_) hf
  simp only [St.fs, Bool.and_eq_true, decide_eq_true_eq] at hi
  exact h3 i hi.1 hi.2

/-! ## Running operations -/
inductive Chain (P : Program) (tab : Nat → TI) (own : Bool) (lim : Nat) (ops : Array Oper) : List Oper → St → List (Out × FP) → St → Prop where
  | nil (st : St) : Chain P tab own lim ops [] st [] st
  | cons {o : Oper} {l : List Oper} {st st' : St} {out : Out} {os : List (Out × FP)} (hf : Fires P tab own ops o (st.fs lim) out) (hn : ∀ id, out.nw.1 ≤ id → id < out.nw.2 → st.nx ≤ id) (h : Chain P tab own lim ops l (st.app o.dst out) os st') :
      Chain P tab own lim ops (o :: l) st ((out, fpOf o (st.fs lim) out) :: os) st'

/-- what is left of a region, run -/
def WRun (P : Program) (tab : Nat → TI) (own : Bool) (lim : Nat) (ops : Array Oper) (l : List Oper) (st : St) (acc : List FP) (Q : St → List FP → Prop) : Prop :=
  ∃ os st', Chain P tab own lim ops l st os st' ∧ Q st' (acc ++ os.map (·.2))

theorem WRun.nil {P tab own lim ops st acc Q} (h : Q st acc) : WRun P tab own lim ops [] st acc Q := ⟨[], st, .nil st, by simpa using h⟩

def dstAt : List Oper → Nat → Option Nat
  | [], _ => none
  | o :: _, 0 => o.dst
  | _ :: r, j + 1 => dstAt r j

theorem dstAt_eq (l : List Oper) (j : Nat) : dstAt l j = (l[j]?).bind (·.dst) := by
  induction l generalizing j with
  | nil => rfl
  | cons o l ih => cases j <;> simp [dstAt, ih]

def isCallV (o : Oper) : Bool := match o.op with
  | .call c => match c.callee with
    | .value _ => true
    | .invoke _ _ => true
    | _ => false
  | _ => false

/-- new ids: none, or the next one -/
def nwB (nx : Nat) (nw : Nat × Nat) : Bool := (Nat.beq nw.1 0 && Nat.beq nw.2 0) || (Nat.beq nw.1 nx && Nat.beq nw.2 (nx + 1))

/-- one operation that is no call -/
def stepE (tab : Nat → TI) (own : Bool) (ops : List Oper) (o : Oper) (st : St) : Option (Out × Bool) :=
  match o.guard with
  | none => match aop tab own o.op st.nx true (getR st.vars) (getL st.heap) with
    | some out => some (out, out.vc && nwB st.nx out.nw)
    | none => none
  | some (j, want) => match dstAt ops j with
    | none => none
    | some t => match gval want (getR st.vars t) with
      | none => none
      | some g => match aop tab own o.op st.nx g (getR st.vars) (getL st.heap) with
        | some out => some ({ d := .when g out.d, vc := true, met := out.met }, (!g || out.vc) && out.eff.isEmpty && Nat.beq out.nw.1 0 && Nat.beq out.nw.2 0)
        | none => none

theorem nwB_spec {nx : Nat} {nw : Nat × Nat} (h : nwB nx nw = true) : nw = (0, 0) ∨ nw = (nx, nx + 1) := by
  unfold nwB at h
  simp only [Bool.or_eq_true, Bool.and_eq_true] at h
  rcases h with ⟨h1, h2⟩ | ⟨h1, h2⟩
  · left
    have h1 := Nat.eq_of_beq_eq_true h1
    have h2 := Nat.eq_of_beq_eq_true h2
    cases nw; simp_all
  · right
    have h1 := Nat.eq_of_beq_eq_true h1
    have h2 := Nat.eq_of_beq_eq_true h2
    cases nw; simp_all

theorem stepE_nx {tab : Nat → TI} {own : Bool} {ops : List Oper} {o : Oper} {st : St} {out : Out} {v : Bool} (h : stepE tab own ops o st = some (out, v)) (hv : v = true) : out.nw = (0, 0) ∨ out.nw = (st.nx, st.nx + 1) := by
  unfold stepE at h
  split at h
  · split at h
    · cases h
      simp only [Bool.and_eq_true] at hv
      exact nwB_spec hv.2
    · cases h
  · split at h
    · cases h
    · split at h
      · cases h
      · split at h
        · cases h
          exact .inl rfl
        · cases h

theorem app_nx {st : St} {dst : Option Nat} {out : Out} (h : out.nw = (0, 0) ∨ out.nw = (st.nx, st.nx + 1)) : st.nx ≤ (st.app dst out).nx := by
  unfold St.app
  rcases h with h | h <;> rw [h]
  · show st.nx ≤ st.nx
    exact Nat.le_refl _
  · have : Nat.blt st.nx (st.nx + 1) = true := Nat.ble_eq_true_of_le (Nat.le_refl _)
    simp only [this, cond_true]
    omega

theorem stepE_fires {P tab own lim} {ops : Array Oper} {o : Oper} {st : St} {out : Out} {v : Bool} (hc : isCallV o = false) (h : stepE tab own ops.toList o st = some (out, v)) (hv : v = true) (hlim : (st.app o.dst out).nx ≤ lim) : Fires P tab own ops o (st.fs lim) out ∧ ∀ id, out.nw.1 ≤ id → id < out.nw.2 → st.nx ≤ id := by
  have hnw := stepE_nx h hv
  refine ⟨?_, ?_⟩
  · have core : ∀ out, aop tab own o.op st.nx true (getR st.vars) (getL st.heap) = some out → out.vc = true → (out.nw = (st.nx, st.nx + 1) → st.nx < lim) → Core P tab own o (st.fs lim) out := by
      intro out h1 h2 h3
      have hx : ∃ nid, aop tab own o.op nid true (st.fs lim).rd (st.fs lim).hp = some out ∧ out.vc = true ∧ (out.nw = (nid, nid + 1) → (st.fs lim).nu nid = true) :=
        ⟨st.nx, h1, h2, fun e => by simp [St.fs, h3 e]⟩
      unfold Core
      split
      · rename_i c hop
        split
        · rename_i f hcc
          simp [isCallV, hop, hcc] at hc
        · exact hx
      · exact hx
    unfold stepE at h
    unfold Fires
    split at h
    · rename_i hg
      simp only [hg]
      split at h
      · rename_i out' ha
        cases h
        simp only [Bool.and_eq_true] at hv
        refine core _ ha hv.1 fun e => ?_
        unfold St.app at hlim
        rw [e] at hlim
        simp only [Nat.blt, Nat.ble_eq_true_of_le (Nat.le_refl _), cond_true] at hlim
        omega
      · cases h
    · rename_i j want hg
      simp only [hg]
      split at h
      · cases h
      · rename_i t ht
        split at h
        · cases h
        · rename_i g hgv
          split at h
          · rename_i out' ha
            cases h
            simp only [Bool.and_eq_true, Bool.or_eq_true, Bool.not_eq_true', List.isEmpty_iff] at hv
            obtain ⟨⟨⟨v1, v2⟩, v3⟩, v4⟩ := hv
            have hz : out'.nw = (0, 0) := by
              have h3 := Nat.eq_of_beq_eq_true v3
              have h4 := Nat.eq_of_beq_eq_true v4
              cases hh : out'.nw; simp_all
            refine ⟨t, g, out', ?_, hgv, fun hgt => ?_, by rw [v2, hz]; cases g <;> rfl⟩
            · rw [dstAt_eq] at ht
              simpa [gslot] using ht
            · subst hgt
              exact core _ ha (by simpa using v1) fun e => by
                rw [hz] at e
                simp only [Prod.mk.injEq] at e
                omega
          · cases h
  · intro id h1 h2
    rcases hnw with e | e <;> rw [e] at h1 h2
    · exact absurd h2 (by simp)
    · exact h1

/-- operations up to the next call -/
def runE (tab : Nat → TI) (own dr : Bool) (ops : List Oper) : List Oper → St → Bool → List FP → Option (St × Bool × List FP × List Oper)
  | [], st, vc, fps => some (st, vc, fps, [])
  | o :: l, st, vc, fps =>
    bif isCallV o then some (st, vc, fps, o :: l) else
    match stepE tab own ops o st with
    | some (out, v) => runE tab own dr ops l (st.app o.dst out) (vc && v) (bif dr then fps ++ [fpOf o ⟨getR st.vars, getL st.heap, fun _ => true⟩ out] else fps)
    | none => none

theorem fpOf_fs (o : Oper) (st : St) (lim : Nat) (out : Out) : fpOf o ⟨getR st.vars, getL st.heap, fun _ => true⟩ out = fpOf o (st.fs lim) out := rfl

/-- The rule: operations up to the next call, by reckoning. -/
theorem WRun.E {P tab own lim} {ops : Array Oper} {dr : Bool} {l l' : List Oper} {st st' : St} {acc acc' : List FP} {Q : St → List FP → Prop} {vc : Bool}
    (h : runE tab own dr ops.toList l st true acc = some (st', vc, acc', l')) (hdr : dr = true ∨ ∀ st a b, Q st a → Q st b) (hv : vc = true) (hlim : st'.nx ≤ lim) (hQ : WRun P tab own lim ops l' st' acc' Q) : st.nx ≤ st'.nx ∧ WRun P tab own lim ops l st acc Q := by
  have key : ∀ (l : List Oper) (st : St) (v0 : Bool) (acc : List FP), runE tab own dr ops.toList l st v0 acc = some (st', vc, acc', l') → v0 = true ∧ st.nx ≤ st'.nx ∧ WRun P tab own lim ops l st acc Q := by
    intro l
    induction l with
    | nil =>
      intro st v0 acc h
      simp only [runE, Option.some.injEq, Prod.mk.injEq] at h
      obtain ⟨rfl, rfl, rfl, rfl⟩ := h
      exact ⟨hv, Nat.le_refl _, hQ⟩
    | cons o l ih =>
      intro st v0 acc h
      simp only [runE] at h
      cases hc : isCallV o with
      | true =>
        rw [hc] at h
        simp only [cond_true, Option.some.injEq, Prod.mk.injEq] at h
        obtain ⟨rfl, rfl, rfl, rfl⟩ := h
        exact ⟨hv, Nat.le_refl _, hQ⟩
      | false =>
        rw [hc] at h
        simp only [cond_false] at h
        split at h
        · rename_i out v hs
          obtain ⟨hvv, hnx, os, st2, hch, hq⟩ := ih _ _ _ h
          simp only [Bool.and_eq_true] at hvv
          obtain ⟨f1, f2⟩ := stepE_fires (P := P) (lim := lim) hc hs hvv.2 (Nat.le_trans hnx hlim)
          refine ⟨hvv.1, Nat.le_trans (app_nx (stepE_nx hs hvv.2)) hnx, (out, fpOf o (st.fs lim) out) :: os, st2, .cons f1 f2 hch, ?_⟩
          rcases hdr with hd | hd
          · subst hd
            simp only [cond_true, fpOf_fs o st lim] at hq
            simpa using hq
          · exact hd _ _ _ hq
        · cases h
  exact (key l st true acc h).2

section
variable {P : Program} {tab : Nat → TI} {own : Bool} {lim : Nat} {E : En} {n : Nat}

theorem chain_wpOps (hT : TabOk P tab) {ops : Array Oper} (hok : opsOk n ops = true) {Q : Exit → Act → World → Prop} : ∀ (l : List Oper) (k : Nat) (st st' : St) (os : List (Out × FP)) (F : FrS) (a : Act) (w : World) (g : Gh),
    (∀ i, l[i]? = ops[k + i]?) → Chain P tab own lim ops l st os st' → F.on lim st → Rel E n F a w g → (∀ F' a' w' g', F'.on lim st' → Rel E n F' a' w' g' → Q .normal a' w') → wpOps P ops Q (List.range' k l.length) a w
  | [], k, st, st', os, F, a, w, g, _, h, hF, hR, hQ => by
    cases h
    exact hQ _ _ _ _ hF hR
  | o :: l, k, st, st', os, F, a, w, g, hl, h, hF, hR, hQ => by
    cases h with
    | cons hf hn h =>
      have hi : ops[k]? = some o := by have := hl 0; simpa using this.symm
      obtain ⟨h1, h2, h3⟩ := opsOk_at hok hi
      simp only [List.length_cons, List.range'_succ]
      rw [wpOps_cons]
      refine fires_sound hT hi h1 h2 h3 hR (fires_on hF hf) fun v w' g' hrel => ?_
      exact chain_wpOps hT hok l (k + 1) _ _ _ _ _ _ _ (fun i => by have := hl (i + 1); simpa [Nat.add_assoc, Nat.add_comm 1 i] using this) h (on_app hF o _ hn) hrel hQ

theorem runS_congr {ops : Array Oper} {outs outs' : Nat → Out} {fps fps' : Nat → FP} : ∀ (l : List Nat) (F F' : FrS), (∀ i ∈ l, outs' i = outs i ∧ fps' i = fps i) → RunS P tab own ops outs fps l F F' → RunS P tab own ops outs' fps' l F F'
  | [], F, F', _, h => by cases h; exact .nil _
  | i :: l, F, F', he, h => by
    cases h with
    | cons hs h =>
      obtain ⟨e1, e2⟩ := he i (by simp)
      refine .cons ?_ ?_
      · obtain ⟨o, ho, hf, hp⟩ := hs
        exact ⟨o, ho, by rw [e1]; exact hf, by rw [e1, e2]; exact hp⟩
      · have : FrS.at ops outs' i F = FrS.at ops outs i F := by simp only [FrS.at, e1]
        rw [this]
        exact runS_congr l _ _ (fun j hj => he j (by simp [hj])) h

def fpDflt : FP := ⟨[], [], 0, 0⟩

theorem chain_runS {ops : Array Oper} : ∀ (l : List Oper) (k : Nat) (st st' : St) (os : List (Out × FP)) (F : FrS), (∀ i, l[i]? = ops[k + i]?) → Chain P tab own lim ops l st os st' → F.on lim st →
    os.length = l.length ∧ ∃ F', F'.on lim st' ∧ RunS P tab own ops (fun i => ((os.map (·.1))[i - k]?).getD { d := .undef, vc := true }) (fun i => ((os.map (·.2))[i - k]?).getD fpDflt) (List.range' k l.length) F F'
  | [], k, st, st', os, F, _, h, hF => by cases h; exact ⟨rfl, F, hF, .nil _⟩
  | o :: l, k, st, st', os, F, hl, h, hF => by
    cases h with
    | @cons _ _ _ _ out os' hf hn h =>
      have hi : ops[k]? = some o := by have := hl 0; simpa using this.symm
      obtain ⟨hlen, F', hF', hrun⟩ := chain_runS l (k + 1) _ _ _ (F.app o out) (fun i => by have := hl (i + 1); simpa [Nat.add_assoc, Nat.add_comm 1 i] using this) h (on_app hF o _ hn)
      refine ⟨by simp [hlen], F', hF', ?_⟩
      simp only [List.length_cons, List.range'_succ]
      refine .cons ⟨o, hi, by simpa using fires_on hF hf, ?_⟩ ?_
      · simp only [Nat.sub_self, List.map_cons, List.getElem?_cons_zero, Option.getD_some]
        simp only [fpOf, hF.1, St.fs]
      have hat : FrS.at ops (fun i => ((((out, fpOf o (st.fs lim) out) :: os').map (·.1))[i - k]?).getD { d := .undef, vc := true }) k F = F.app o out := by
        simp [FrS.at, hi]
      rw [hat]
      refine runS_congr _ _ _ (fun i hi => ?_) hrun
      have : k + 1 ≤ i := by
        have := List.mem_range'.1 hi
        omega
      have e : i - k = (i - (k + 1)) + 1 := by omega
      rw [e]
      simp

/-- what runs a region -/
def RegA (P : Program) (tab : Nat → TI) (own : Bool) (lim : Nat) (ops : Array Oper) (draw : Bool) (st : St) (Q : St → Prop) : Prop :=
  WRun P tab own lim ops ops.toList st [] fun st' fps => (draw = true → schedB ops (fun i => (fps[i]?).getD fpDflt) = true) ∧ Q st'

theorem region_sound (hT : TabOk P tab) (hm : P.follows .mixedOrders = true) {id : Nat} {ops : Array Oper} {draw : Bool} (hok : opsOk n ops = true) (hsl : draw = true → slotsOk ops = true) {st : St} {Q : St → Prop}
    (h : RegA P tab own lim ops draw st Q) {F : FrS} {a : Act} {w : World} {g : Gh} (hF : F.on lim st) (hR : Rel E n F a w g) {Q' : Exit → Act → World → Prop}
    (hQ : ∀ st' F' a' w' g', Q st' → F'.on lim st' → Rel E n F' a' w' g' → Q' .normal a' w') : (Code.region id ops draw).wp P Q' a w := by
  obtain ⟨os, st', hch, hs, hq⟩ := h
  cases draw with
  | false =>
    refine wp_region ?_
    have := chain_wpOps hT hok (Q := Q') ops.toList 0 st st' os F a w g (fun i => by simp) hch hF hR (fun F' a' w' g' hf hr => hQ _ _ _ _ _ hq hf hr)
    rw [List.range_eq_range']
    simpa using this
  | true =>
    obtain ⟨hlen, F', hF', hrun⟩ := chain_runS ops.toList 0 st st' os F (fun i => by simp) hch hF
    have hs' := hs rfl
    simp only [List.nil_append] at hs'
    refine region_draw (own := own) hT hm hok (hsl rfl) (outs := fun i => ((os.map (·.1))[i - 0]?).getD { d := .undef, vc := true }) (fps := fun i => ((os.map (·.2))[i - 0]?).getD fpDflt) (by simpa using hs') (F' := F') ?_ hR fun a' w' g' hr => hQ _ _ _ _ _ hq hF' hr
    · rw [List.range_eq_range']
      exact hrun
end

/-! ## Code -/
/-- the first knows no more than the second -/
def Sub (a b : St) : Prop := (∀ t d, getL a.vars t = some d → getL b.vars t = some d) ∧ (∀ i x, getL a.heap i = some x → getL b.heap i = some x) ∧ b.nx ≤ a.nx

/-- the code, begun where the state reads so, ends so -/
def Ok (P : Program) (lim n : Nat) (c : Code) (st : St) (Q : Exit → St → Prop) : Prop :=
  ∀ (E : En) (F : FrS) (a : Act) (w : World) (g : Gh), F.on lim st → Rel E n F a w g → c.wp P (fun e a' w' => ∃ st' F' g', Q e st' ∧ F'.on lim st' ∧ Rel E n F' a' w' g') a w

theorem Rel.sub {E n a w g} {F : FrS} {lim : Nat} {st st' : St} (hF : F.on lim st) (h : Rel E n F a w g) (hs : Sub st' st) : ∃ F', F'.on lim st' ∧ Rel E n F' a w g := by
  obtain ⟨h1, h2, h3⟩ := hF
  have hne : ∀ id, getL st'.heap id ≠ none → F.hp id ≠ none := by
    intro id hid h0
    obtain ⟨b, hb⟩ := Option.ne_none_iff_exists'.1 hid
    have := hs.2.1 id b hb
    rw [h2, this] at h0; cases h0
  have hown : ∀ b, ownB g (getL st'.heap) b → w.heap.size ≤ b ∨ ownB g F.hp b := by
    rintro b ⟨x, o, hx, hss⟩
    exact .inr ⟨x, o, hne x hx, hss⟩
  have hsome : ∀ id blk, getL st'.heap id = some blk → F.hp id = some blk := fun id blk hb => by rw [h2]; exact hs.2.1 id blk hb
  have hrel := Rel.change h (g' := g) (w' := w) (hp' := getL st'.heap) (nu' := F.nu) (ch := fun _ => False) ((Keep.refl _ w).mono fun _ _ h => h) rfl rfl (fun _ _ => rfl) hown (fun id blk hb => .inl ⟨fun h => h, hsome id blk hb⟩)
    (fun id id' b o o' k1 k2 => h.mem.inj id id' b o o' (hne _ k1) (hne _ k2)) (fun id hid => by
      obtain ⟨k1, k2⟩ := h.mem.nw id hid
      refine ⟨k1, ?_⟩
      cases hg : getL st'.heap id with
      | none => rfl
      | some b => rw [hsome id b hg] at k2; cases k2) (fun _ _ => rfl) (fun _ h => h)
  refine ⟨⟨getR st'.vars, getL st'.heap, F.nu⟩, ⟨rfl, rfl, fun id k1 k2 => h3 id (Nat.le_trans hs.2.2 k1) k2⟩, ⟨hrel.sz, hrel.df, fun t => ?_, hrel.mem, hrel.base, hrel.keep, hrel.gz, hrel.gs, hrel.nu⟩⟩
  have hr := hrel.rd t
  simp only at hr ⊢
  rw [h1] at hr
  cases hg : getL st'.vars t with
  | none => simp only [getR, hg, rep]
  | some d =>
    have := hs.1 t d hg
    simp only [getR, hg, this] at hr ⊢
    exact hr

theorem Ok.sub {P lim n c st st' Q} (hs : Sub st' st) (h : Ok P lim n c st' Q) : Ok P lim n c st Q := by
  intro E F a w g hF hR
  obtain ⟨F', hF', hR'⟩ := hR.sub hF hs
  exact h E F' a w g hF' hR'

theorem Ok.mono {P lim n c st} {Q Q' : Exit → St → Prop} (h : Ok P lim n c st Q) (hq : ∀ e s, Q e s → Q' e s) : Ok P lim n c st Q' :=
  fun E F a w g hF hR => wp_mono (h E F a w g hF hR) fun _ _ _ ⟨st', F', g', h1, h2, h3⟩ => ⟨st', F', g', hq _ _ h1, h2, h3⟩

theorem Ok.skip {P lim n st} {Q : Exit → St → Prop} (h : Q .normal st) : Ok P lim n .skip st Q := fun _ F _ _ g hF hR => wp_skip ⟨st, F, g, h, hF, hR⟩
theorem Ok.exit {P lim n id st} {Q : Exit → St → Prop} (h : Q (.exit id) st) : Ok P lim n (.exit id) st Q := fun _ F _ _ g hF hR => wp_exit ⟨st, F, g, h, hF, hR⟩
theorem Ok.ret {P lim n st} {Q : Exit → St → Prop} (h : Q .ret st) : Ok P lim n .ret st Q := fun _ F _ _ g hF hR => wp_ret ⟨st, F, g, h, hF, hR⟩

/-- what a part must leave, where another follows -/
def seqQ (P : Program) (lim n : Nat) (y : Code) (Q : Exit → St → Prop) : Exit → St → Prop := fun e st' => match e with | .normal => Ok P lim n y st' Q | e => Q e st'
/-- what a block's inside must leave -/
def blockQ (id : Nat) (Q : Exit → St → Prop) : Exit → St → Prop := fun e st' => match e with | .exit i => bif Nat.beq i id then Q .normal st' else Q (.exit i) st' | e => Q e st'

theorem Ok.seq {P lim n x y st} {Q : Exit → St → Prop} (h : Ok P lim n x st (seqQ P lim n y Q)) : Ok P lim n (.seq x y) st Q := by
  intro E F a w g hF hR
  refine wp_seq (wp_mono (h E F a w g hF hR) ?_)
  rintro e a' w' ⟨st', F', g', h1, h2, h3⟩
  cases e with
  | normal => exact h1 E F' a' w' g' h2 h3
  | _ => exact ⟨st', F', g', h1, h2, h3⟩

theorem Ok.block {P lim n id c st} {Q : Exit → St → Prop} (h : Ok P lim n c st (blockQ id Q)) : Ok P lim n (.block id c) st Q := by
  intro E F a w g hF hR
  refine wp_block (wp_mono (h E F a w g hF hR) ?_)
  rintro e a' w' ⟨st', F', g', h1, h2, h3⟩
  cases e with
  | exit i =>
    simp only [Exit.inBlock]
    simp only [blockQ] at h1
    by_cases hi : i = id
    · subst hi; simp only [Nat.beq_refl, cond_true, if_true] at h1 ⊢; exact ⟨st', F', g', h1, h2, h3⟩
    · rw [beq_ne hi] at h1
      simp only [hi, if_false, cond_false] at h1 ⊢; exact ⟨st', F', g', h1, h2, h3⟩
  | _ => exact ⟨st', F', g', h1, h2, h3⟩

theorem Ok.cond {P lim n c x y st b} {Q : Exit → St → Prop} (hk : operandOk c = true) (hc : ev (getR st.vars) c = .bool b) (h1 : b = true → Ok P lim n x st Q) (h2 : b = false → Ok P lim n y st Q) : Ok P lim n (.cond c x y) st Q := by
  intro E F a w g hF hR
  have := rep_ev hR.rd c hk
  rw [hF.1, hc] at this
  simp only [rep] at this
  cases b
  · exact wp_cond_false this (h2 rfl E F a w g hF hR)
  · exact wp_cond_true this (h1 rfl E F a w g hF hR)

/-- Are a region's operands in their kinds' ranges, its places in the frame, its order as the theorem wants it? -/
def regOk (n : Nat) (ops : Array Oper) (draw : Bool) : Bool := opsOk n ops && (!draw || slotsOk ops)

theorem getL_keep {α : Type} (V : List Nat) (l : List (Nat × α)) (t : Nat) (d : α) (h : getL (keep V l) t = some d) : getL l t = some d := by
  induction l with
  | nil => exact h
  | cons x l ih =>
    obtain ⟨a, z⟩ := x
    simp only [keep] at h
    simp only [getL]
    cases hv : V.any (Nat.beq a)
    · rw [hv] at h
      simp only [cond_false] at h
      have := ih h
      cases hb : Nat.beq a t
      · exact this
      · exfalso
        have e := Nat.eq_of_beq_eq_true hb
        subst e
        have : ∀ (l : List (Nat × α)), getL (keep V l) a = none := by
          intro l
          induction l with
          | nil => rfl
          | cons y l ih2 =>
            obtain ⟨b, w⟩ := y
            simp only [keep]
            cases hvb : V.any (Nat.beq b)
            · exact ih2
            · simp only [cond_true, getL]
              cases hba : Nat.beq b a
              · exact ih2
              · exfalso
                have e := Nat.eq_of_beq_eq_true hba
                subst e
                rw [hv] at hvb; cases hvb
        rw [this l] at h; cases h
    · rw [hv] at h
      simp only [cond_true, getL] at h
      cases hb : Nat.beq a t
      · rw [hb] at h; simp only [cond_false] at h ⊢; exact ih h
      · rw [hb] at h; exact h

theorem Ok.region {P tab own lim n id ops draw st} {Q : Exit → St → Prop} (hT : TabOk P tab) (hm : P.follows .mixedOrders = true) (V : List Nat) (hok : regOk n ops draw = true) (h : RegA P tab own lim ops draw ⟨keep V st.vars, st.heap, st.nx⟩ (Q .normal)) : Ok P lim n (.region id ops draw) st Q := by
  simp only [regOk, Bool.and_eq_true, Bool.or_eq_true, Bool.not_eq_true'] at hok
  intro E F a w g hF hR
  obtain ⟨F', hF', hR'⟩ := hR.sub hF (st' := ⟨keep V st.vars, st.heap, st.nx⟩) ⟨fun t d h => getL_keep V _ t d h, fun _ _ h => h, Nat.le_refl _⟩
  refine region_sound hT hm hok.1 (fun hd => ?_) h hF' hR' fun st' F' a' w' g' h1 h2 h3 => ⟨st', F', g', h1, h2, h3⟩
  rcases hok.2 with h | h
  · rw [hd] at h; cases h
  · exact h
end Go.Tm

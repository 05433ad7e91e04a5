/- Ranges over functions whose rounds run: an iterator's code, reckoned. -/
import Derived.Test.YtggdmadjpakkbaaGreatClientNamesPg
section
namespace Go.Tm
open Go.RowKit Go.WideShapes

/-! ## An evaluator for code, whatever its regions and ranges are -/
section
variable {S : Type}
abbrev RgF (S : Type) := Nat → Array Oper → Bool → St → List Nat → S → Option (St × List Nat × S)
abbrev RfF (S : Type) := Operand → Array Tmp → Code → Code → St → List Nat → S → Option (Ex × St × List Nat × S)

def runZ (rg : RgF S) (rf : RfF S) : Nat → Code → St → List Nat → S → Option (Ex × St × List Nat × S)
  | 0, _, _, _, _ => none
  | n + 1, c, st, ws, s => match c with
    | .skip => some (.normal, st, ws, s)
    | .region id ops draw => match rg id ops draw st ws s with
      | some (st', ws', s') => some (.normal, st', ws', s')
      | none => none
    | .seq a b => match runZ rg rf n a st ws s with
      | some (.normal, st', ws', s') => runZ rg rf n b st' ws' s'
      | r => r
    | .cond c a b => match ev (getR st.vars) c with
      | .bool true => runZ rg rf n a st ws s
      | .bool false => runZ rg rf n b st ws s
      | _ => none
    | .block id b => match runZ rg rf n b st ws s with
      | some (.exit i, st', ws', s') => bif Nat.beq i id then some (.normal, st', ws', s') else some (.exit i, st', ws', s')
      | r => r
    | .loop b => match runZ rg rf n b st ws s with
      | some (.normal, st', ws', s') => runZ rg rf n (.loop b) st' ws' s'
      | r => r
    | .exit id => some (.exit id, st, ws, s)
    | .ret => some (.ret, st, ws, s)
    | .label _ => some (.normal, st, ws, s)
    | .rangeFunc gop ps assign body => rf gop ps assign body st ws s
    | _ => none

def codeZ (rgo : Nat → Array Oper → Bool → Bool) (rfo : Operand → Array Tmp → Code → Code → Bool) : Code → Bool
  | .skip => true
  | .region id ops draw => rgo id ops draw
  | .seq a b => codeZ rgo rfo a && codeZ rgo rfo b
  | .cond c a b => operandOk c && codeZ rgo rfo a && codeZ rgo rfo b
  | .block _ b => codeZ rgo rfo b
  | .loop b => codeZ rgo rfo b
  | .exit _ => true
  | .ret => true
  | .label _ => true
  | .rangeFunc gop ps assign body => rfo gop ps assign body
  | _ => false

def Wrote (base : Nat) (h h' : List (Nat × Blk)) (ws ws' : List Nat) : Prop := ∀ id, id < base → id ∉ ws' → id ∉ ws ∧ getL h' id = getL h id

theorem Wrote.refl {base : Nat} {h : List (Nat × Blk)} {ws : List Nat} : Wrote base h h ws ws := fun _ _ hw => ⟨hw, rfl⟩
theorem Wrote.trans {base : Nat} {h h1 h2 : List (Nat × Blk)} {ws ws1 ws2 : List Nat} (a : Wrote base h h1 ws ws1) (b : Wrote base h1 h2 ws1 ws2) : Wrote base h h2 ws ws2 := fun id hid hw => by
  obtain ⟨k1, k2⟩ := b id hid hw
  obtain ⟨k3, k4⟩ := a id hid k1
  exact ⟨k3, k2.trans k4⟩

variable {P : Program} {n : Nat} {r : Option Nat} {J : En → S → FrS → Act → World → Gh → Prop}

def RgSound (P : Program) (base n : Nat) (r : Option Nat) (J : En → S → FrS → Act → World → Gh → Prop) (rgo : Nat → Array Oper → Bool → Bool) (rg : RgF S) : Prop :=
  ∀ id ops draw st ws s st' ws' s', rgo id ops draw = true → rg id ops draw st ws s = some (st', ws', s') → st.nx ≤ st'.nx ∧ Wrote base st.heap st'.heap ws ws' ∧ ∀ lim, st'.nx ≤ lim → OkG P lim n r J (.region id ops draw) st s fun e t q => e = .normal ∧ t = st' ∧ q = s'
def RfSound (P : Program) (base n : Nat) (r : Option Nat) (J : En → S → FrS → Act → World → Gh → Prop) (rfo : Operand → Array Tmp → Code → Code → Bool) (rf : RfF S) : Prop :=
  ∀ gop ps assign body st ws s e st' ws' s', rfo gop ps assign body = true → rf gop ps assign body st ws s = some (e, st', ws', s') → st.nx ≤ st'.nx ∧ Wrote base st.heap st'.heap ws ws' ∧ ∀ lim, st'.nx ≤ lim → OkG P lim n r J (.rangeFunc gop ps assign body) st s fun e' t q => e' = e.to ∧ t = st' ∧ q = s'

def OkZ (P : Program) (lim n : Nat) (r : Option Nat) (J : En → S → FrS → Act → World → Gh → Prop) (c : Code) (st : St) (s : S) (Q : Exit → St → S → Prop) : Prop := OkG P lim n r J c st s Q ∧ ∀ b, c = .loop b → OkGL P lim n r J b st s Q

theorem runZ_sound {base : Nat} {rgo : Nat → Array Oper → Bool → Bool} {rfo : Operand → Array Tmp → Code → Code → Bool} {rg : RgF S} {rf : RfF S} (hg : RgSound P base n r J rgo rg) (hf : RfSound P base n r J rfo rf) :
    ∀ (m : Nat) (c : Code) (st st' : St) (ws ws' : List Nat) (s s' : S) (e : Ex), codeZ rgo rfo c = true → runZ rg rf m c st ws s = some (e, st', ws', s') →
    st.nx ≤ st'.nx ∧ Wrote base st.heap st'.heap ws ws' ∧ ∀ lim, st'.nx ≤ lim → OkZ P lim n r J c st s fun e' t q => e' = e.to ∧ t = st' ∧ q = s'
  | 0, c, st, st', ws, ws', s, s', e, _, h => by simp only [runZ, reduceCtorEq] at h
  | m + 1, c, st, st', ws, ws', s, s', e, hk, h => by
    cases c with
    | skip =>
      simp only [runZ, Option.some.injEq, Prod.mk.injEq] at h
      obtain ⟨rfl, rfl, rfl, rfl⟩ := h
      exact ⟨Nat.le_refl _, .refl, fun lim _ => ⟨.skip ⟨rfl, rfl, rfl⟩, nofun⟩⟩
    | exit id =>
      simp only [runZ, Option.some.injEq, Prod.mk.injEq] at h
      obtain ⟨rfl, rfl, rfl, rfl⟩ := h
      exact ⟨Nat.le_refl _, .refl, fun lim _ => ⟨.exit ⟨rfl, rfl, rfl⟩, nofun⟩⟩
    | ret =>
      simp only [runZ, Option.some.injEq, Prod.mk.injEq] at h
      obtain ⟨rfl, rfl, rfl, rfl⟩ := h
      exact ⟨Nat.le_refl _, .refl, fun lim _ => ⟨.ret ⟨rfl, rfl, rfl⟩, nofun⟩⟩
    | label l =>
      simp only [runZ, Option.some.injEq, Prod.mk.injEq] at h
      obtain ⟨rfl, rfl, rfl, rfl⟩ := h
      exact ⟨Nat.le_refl _, .refl, fun lim _ => ⟨.label ⟨rfl, rfl, rfl⟩, nofun⟩⟩
    | region id ops draw =>
      simp only [runZ] at h
      simp only [codeZ] at hk
      split at h
      · rename_i st1 ws1 s1 hr
        simp only [Option.some.injEq, Prod.mk.injEq] at h
        obtain ⟨rfl, rfl, rfl, rfl⟩ := h
        obtain ⟨h1, h2, h3⟩ := hg _ _ _ _ _ _ _ _ _ hk hr
        exact ⟨h1, h2, fun lim hlim => ⟨h3 lim hlim, nofun⟩⟩
      · cases h
    | rangeFunc gop ps assign body =>
      simp only [runZ] at h
      simp only [codeZ] at hk
      obtain ⟨h1, h2, h3⟩ := hf _ _ _ _ _ _ _ _ _ _ _ hk h
      exact ⟨h1, h2, fun lim hlim => ⟨h3 lim hlim, nofun⟩⟩
    | seq a b =>
      simp only [codeZ, Bool.and_eq_true] at hk
      simp only [runZ] at h
      split at h
      · rename_i st1 ws1 s1 hr
        obtain ⟨h1, h2, h3⟩ := runZ_sound hg hf m a _ _ _ _ _ _ _ hk.1 hr
        obtain ⟨g1, g2, g3⟩ := runZ_sound hg hf m b _ _ _ _ _ _ _ hk.2 h
        refine ⟨Nat.le_trans h1 g1, h2.trans g2, fun lim hlim => ⟨.seq ((h3 lim (Nat.le_trans g1 hlim)).1.mono ?_), nofun⟩⟩
        rintro e' t q ⟨rfl, rfl, rfl⟩
        exact (g3 lim hlim).1
      · rename_i hne
        obtain ⟨h1, h2, h3⟩ := runZ_sound hg hf m a _ _ _ _ _ _ _ hk.1 h
        refine ⟨h1, h2, fun lim hlim => ⟨.seq ((h3 lim hlim).1.mono ?_), nofun⟩⟩
        rintro e' t q ⟨rfl, rfl, rfl⟩
        cases e with
        | normal => exact absurd h (hne _ _ _)
        | exit i => exact ⟨rfl, rfl, rfl⟩
        | ret => exact ⟨rfl, rfl, rfl⟩
    | cond c a b =>
      simp only [codeZ, Bool.and_eq_true] at hk
      simp only [runZ] at h
      split at h
      · rename_i hev
        obtain ⟨h1, h2, h3⟩ := runZ_sound hg hf m a _ _ _ _ _ _ _ hk.1.2 h
        exact ⟨h1, h2, fun lim hlim => ⟨.cond hk.1.1 hev (fun _ => (h3 lim hlim).1) (fun h => by cases h), nofun⟩⟩
      · rename_i hev
        obtain ⟨h1, h2, h3⟩ := runZ_sound hg hf m b _ _ _ _ _ _ _ hk.2 h
        exact ⟨h1, h2, fun lim hlim => ⟨.cond hk.1.1 hev (fun h => by cases h) (fun _ => (h3 lim hlim).1), nofun⟩⟩
      · cases h
    | block id b =>
      simp only [codeZ] at hk
      simp only [runZ] at h
      split at h
      · rename_i i st1 ws1 s1 hr
        obtain ⟨h1, h2, h3⟩ := runZ_sound hg hf m b _ _ _ _ _ _ _ hk hr
        cases hb : Nat.beq i id
        · rw [hb] at h
          simp only [cond_false, Option.some.injEq, Prod.mk.injEq] at h
          obtain ⟨rfl, rfl, rfl, rfl⟩ := h
          refine ⟨h1, h2, fun lim hlim => ⟨.block ((h3 lim hlim).1.mono ?_), nofun⟩⟩
          rintro e' t q ⟨rfl, rfl, rfl⟩
          simp only [Ex.to, hb, cond_false]
          exact ⟨trivial, trivial, trivial⟩
        · rw [hb] at h
          simp only [cond_true, Option.some.injEq, Prod.mk.injEq] at h
          obtain ⟨rfl, rfl, rfl, rfl⟩ := h
          refine ⟨h1, h2, fun lim hlim => ⟨.block ((h3 lim hlim).1.mono ?_), nofun⟩⟩
          rintro e' t q ⟨rfl, rfl, rfl⟩
          simp only [Ex.to, hb, cond_true]
          exact ⟨trivial, trivial, trivial⟩
      · rename_i hne
        obtain ⟨h1, h2, h3⟩ := runZ_sound hg hf m b _ _ _ _ _ _ _ hk h
        refine ⟨h1, h2, fun lim hlim => ⟨.block ((h3 lim hlim).1.mono ?_), nofun⟩⟩
        rintro e' t q ⟨rfl, rfl, rfl⟩
        cases e with
        | exit i => exact absurd h (hne _ _ _ _)
        | normal => exact ⟨rfl, rfl, rfl⟩
        | ret => exact ⟨rfl, rfl, rfl⟩
    | loop b =>
      have hk' : codeZ rgo rfo (.loop b) = true := hk
      simp only [codeZ] at hk
      simp only [runZ] at h
      split at h
      · rename_i st1 ws1 s1 hr
        obtain ⟨h1, h2, h3⟩ := runZ_sound hg hf m b _ _ _ _ _ _ _ hk hr
        obtain ⟨g1, g2, g3⟩ := runZ_sound hg hf m (.loop b) _ _ _ _ _ _ _ hk' h
        have hL : ∀ lim, st'.nx ≤ lim → OkGL P lim n r J b st s fun e' t q => e' = e.to ∧ t = st' ∧ q = s' := fun lim hlim => .round (((h3 lim (Nat.le_trans g1 hlim)).1).mono fun e' t q ⟨k1, k2, k3⟩ => by
          subst k1 k2 k3
          exact (g3 lim hlim).2 b rfl)
        refine ⟨Nat.le_trans h1 g1, h2.trans g2, fun lim hlim => ⟨(hL lim hlim).to, fun b' hb => ?_⟩⟩
        cases hb
        exact hL lim hlim
      · rename_i hne
        obtain ⟨h1, h2, h3⟩ := runZ_sound hg hf m b _ _ _ _ _ _ _ hk h
        have hL : ∀ lim, st'.nx ≤ lim → OkGL P lim n r J b st s fun e' t q => e' = e.to ∧ t = st' ∧ q = s' := fun lim hlim => .round (((h3 lim hlim).1).mono fun e' t q ⟨k1, k2, k3⟩ => by
          subst k1 k2 k3
          cases e with
          | normal => exact absurd h (hne _ _ _)
          | exit i => exact ⟨rfl, rfl, rfl⟩
          | ret => exact ⟨rfl, rfl, rfl⟩)
        refine ⟨h1, h2, fun lim hlim => ⟨(hL lim hlim).to, fun b' hb => ?_⟩⟩
        cases hb
        exact hL lim hlim
    | _ => simp only [codeZ, Bool.false_eq_true] at hk
end

/-! ## Regions without yield -/
section
variable {S : Type} {P : Program} {tab : Nat → TI} {call : FuncId → List D → List (Nat × Blk) → Nat → Option Out}

def rgPlain (S : Type) (call : FuncId → List D → List (Nat × Blk) → Nat → Option Out) (tab : Nat → TI) (pt : Nat → List (Nat × Nat)) (base : Nat) : RgF S := fun id ops draw st ws s =>
  match runOps call tab base draw ops.toList ops.toList st ws [] with
  | some (st', ws', fps) => bif draw then (bif schedP (pt id) fps then some (st', ws', s) else none) else some (st', ws', s)
  | none => none

def rgoK (K : List Nat) (n : Nat) (pt : Nat → List (Nat × Nat)) : Nat → Array Oper → Bool → Bool := fun id ops draw => regOk n ops draw && (!draw || cover ops (pt id)) && keepsK K ops

theorem rgPlain_sound (hc : CallSound P call) (hT : TabOk P tab) (hm : P.follows .mixedOrders = true) {pt : Nat → List (Nat × Nat)} {base n : Nat} {r : Option Nat} {K : List Nat} {J : En → S → FrS → Act → World → Gh → Prop} (hS : Stab K J) :
    RgSound P base n r J (rgoK K n pt) (rgPlain S call tab pt base) := by
  intro id ops draw st ws s st' ws' s' hk h
  simp only [rgoK, Bool.and_eq_true, Bool.or_eq_true, Bool.not_eq_true'] at hk
  simp only [rgPlain] at h
  split at h
  · rename_i st1 ws1 fps hr
    obtain ⟨h1, h2, h3⟩ := runOps_sound hc _ _ _ _ _ _ _ hr
    cases draw with
    | false =>
      simp only [cond_false, Option.some.injEq, Prod.mk.injEq] at h
      obtain ⟨rfl, rfl, rfl⟩ := h
      refine ⟨h1, h2, fun lim hlim => ?_⟩
      obtain ⟨os, k1, _⟩ := h3 lim hlim
      exact .region0 hS (own := true) hT hm hk.1.1 hk.2 ⟨os, st1, k1, nofun, rfl, rfl, rfl⟩
    | true =>
      simp only [cond_true] at h
      cases hs : schedP (pt id) fps
      · rw [hs] at h; cases h
      · rw [hs] at h
        simp only [cond_true, Option.some.injEq, Prod.mk.injEq] at h
        obtain ⟨rfl, rfl, rfl⟩ := h
        refine ⟨h1, h2, fun lim hlim => ?_⟩
        obtain ⟨os, k1, k2⟩ := h3 lim hlim
        have hcov := hk.1.2.resolve_left (by simp)
        refine .region0 hS (own := true) hT hm hk.1.1 hk.2 ⟨os, st1, k1, fun _ => ?_, rfl, rfl, rfl⟩
        rw [← k2 rfl]
        exact cover_sched hcov hs
  · cases h

/-! ## Regions that call yield -/
abbrev YbF := List D → List (Nat × Blk) → Nat → List Nat → Option (Ex × List (Nat × Blk) × Nat × List Nat)

def isYieldO (ks : List Nat) (o : Oper) : Bool := match o.op with
  | .call c => match c.callee with
    | .value (.tmp t) => hasN ks t
    | _ => false
  | _ => false

/-- yield itself, handed on -/
def isMoveY (ks : List Nat) (o : Oper) : Option Nat := match o.op with
  | .move (.tmp t) => bif hasN ks t && o.guard.isNone then o.dst else none
  | _ => none

def lessD (ys : List Nat) (dst : Option Nat) : List Nat := match dst with
  | none => ys
  | some d => ys.filter fun t => !Nat.beq t d

theorem lessD_spec {ys : List Nat} {dst : Option Nat} {t : Nat} (h : t ∈ lessD ys dst) : t ∈ ys ∧ dst ≠ some t := by
  cases dst with
  | none => exact ⟨h, nofun⟩
  | some d =>
    simp only [lessD, List.mem_filter, Bool.not_eq_true'] at h
    refine ⟨h.1, fun e => ?_⟩
    cases e
    have := h.2
    simp at this

def yargs (o : Oper) : List Operand := match o.op with
  | .call c => c.args.toList
  | _ => []

def St.putD (st : St) (dst : Option Nat) (d : D) : St := ⟨match dst with | some t => put st.vars t d | none => st.vars, st.heap, st.nx⟩

def doYield (yb : YbF) (o : Oper) (st : St) (ws : List Nat) : Option (Ex × St × List Nat) := match opds true (getR st.vars) (yargs o) with
  | (ds, true) => match yb ds st.heap st.nx ws with
    | some (e, heap', nx', ws') => some (e, ⟨st.vars, heap', nx'⟩, ws')
    | none => none
  | _ => none

def yieldX (yb : YbF) (ops : List Oper) (o : Oper) (st : St) (ws : List Nat) (p : Option Code) : Option (St × List Nat × Option Code) :=
  match o.guard with
  | none => match p, doYield yb o st ws with
    | none, some (e, st', ws') => some (st'.putD o.dst (.bool e.isN), ws', e.pend)
    | _, _ => none
  | some (j, want) => match dstAt ops j with
    | none => none
    | some t => match gval want (getR st.vars t) with
      | some true => match p, doYield yb o st ws with
        | none, some (e, st', ws') => some (st'.putD o.dst (.when true (.bool e.isN)), ws', e.pend)
        | _, _ => none
      | some false => some (st.putD o.dst (.when false .undef), ws, p)
      | none => none

def runY (yb : YbF) (call : FuncId → List D → List (Nat × Blk) → Nat → Option Out) (tab : Nat → TI) (base k : Nat) (ops : List Oper) : List Oper → List Nat → St → List Nat → Option Code → Option (St × List Nat × Option Code)
  | [], _, st, ws, p => some (st, ws, p)
  | o :: l, ys, st, ws, p => match isMoveY (k :: ys) o with
    | some d => runY yb call tab base k ops l (d :: ys) (st.putD (some d) .undef) ws p
    | none => bif isYieldO (k :: ys) o then
      match yieldX yb ops o st ws p with
      | some (st', ws', p') => runY yb call tab base k ops l (lessD ys o.dst) st' ws' p'
      | none => none
    else match stepX call tab ops o st with
      | some out => runY yb call tab base k ops l (lessD ys o.dst) (st.app o.dst out) (addW base ws out.eff) p
      | none => none

def YbSound (P : Program) (base : Nat) (Y : YC) (yb : YbF) : Prop := ∀ ds heap nx ws e heap' nx' ws', yb ds heap nx ws = some (e, heap', nx', ws') → nx ≤ nx' ∧ Wrote base heap heap' ws ws' ∧ ∀ lim, nx' ≤ lim → RoundOk P lim Y ds heap nx e heap' nx'

theorem on_putD {F : FrS} {lim : Nat} {st : St} (h : F.on lim st) (dst : Option Nat) (d : D) : (F.put dst d).on lim (st.putD dst d) := by
  obtain ⟨h1, h2, h3⟩ := h
  refine ⟨?_, h2, h3⟩
  funext u
  simp only [FrS.put, St.putD, h1]
  cases dst with
  | none => simp
  | some t =>
    simp only [getR, getL_put]
    by_cases e : t = u
    · subst e; simp
    · have : (some t == some u) = false := by simpa using e
      simp [e, this]

theorem YAt.put {Y : YC} {l : Nat} {E : En} {p : Option Code} {F : FrS} {a : Act} {w : World} {g : Gh} (h : YAt Y l E p F a w g) {dst : Option Nat} {d : D} {v : Value} (hd : dst ≠ some Y.k) : YAt Y l E p (F.put dst d) (a.put dst v) w g := by
  obtain ⟨h1, h2, h3, rc, h4, h5⟩ := h
  refine ⟨by rw [put_defersA]; exact h1, ?_, h3, rc, h4, ⟨h5.st, h5.pe, h5.ps, h5.asg, h5.bd, h5.sz, h5.rd⟩⟩
  rw [kept_put (K := [Y.k]) (a0 := a) (fun _ _ => rfl) (fun t ht => by simp only [List.mem_singleton] at ht; rw [ht]; exact hd) Y.k (by simp)]
  exact h2

theorem bareA_of {a : Act} (h : a.defers = []) : bareA a = a := by cases a; cases h; rfl

/-- one operation that asks for a round -/
theorem doYield_sound {base : Nat} {Y : YC} {yb : YbF} (hy : YbSound P base Y yb) {o : Oper} (hok : opOk o.op = true) {ys : List Nat} (hyo : isYieldO (Y.k :: ys) o = true) {st st' : St} {ws ws' : List Nat} {e : Ex} (h : doYield yb o st ws = some (e, st', ws')) :
    st.nx ≤ st'.nx ∧ Wrote base st.heap st'.heap ws ws' ∧ ∀ lim, st'.nx ≤ lim → ∀ (l n : Nat) (E : En) (F : FrS) (a : Act) (w : World) (g : Gh), F.on lim st → Rel E n F a w g → YAt Y l E none F a w g → (∀ t ∈ ys, a.tmps[t]? = some (.func (.yield l) #[] #[])) →
      ∀ (K : Act → World → Prop) (Q : Exit → Act → World → Prop), (∀ F' w' g', F'.on lim st' → Rel E n F' a w' g' → YAt Y l E e.pend F' a w' g' → K (a.put o.dst (.bool e.isN)) w') → o.wpIn (wideR none) 0 P a w K Q := by
  unfold doYield at h
  split at h
  · rename_i ds hds
    split at h
    · rename_i e1 heap' nx' ws1 hb
      simp only [Option.some.injEq, Prod.mk.injEq] at h
      obtain ⟨rfl, rfl, rfl⟩ := h
      obtain ⟨h1, h2, h3⟩ := hy _ _ _ _ _ _ _ _ hb
      refine ⟨h1, h2, fun lim hlim l n E F a w g hF hR hJ hys K Q hK => ?_⟩
      unfold isYieldO at hyo
      split at hyo
      · rename_i c hop
        split at hyo
        · rename_i t hc
          have htv : a.tmps[t]? = some (.func (.yield l) #[] #[]) := by
            rcases List.mem_cons.1 (hasN_iff.1 hyo) with rfl | h
            · exact hJ.2.1
            · exact hys t h
          have hx1 : ∀ x ∈ o.op.operands.toList, operandOk x = true := fun x hx => List.all_eq_true.1 hok x hx
          have hma : ∀ x ∈ c.args.toList, x ∈ o.op.operands.toList := by
            intro x hx
            rw [hop]
            simp only [Op.operands, Call.operands, hc, Array.toList_append, List.mem_append]
            exact .inr hx
          have hya : yargs o = c.args.toList := by unfold yargs; rw [hop]
          rw [hya, ← hF.1] at hds
          have hvs := reps_opds hR.rd _ _ _ hds rfl (List.all_eq_true.2 fun x hx => hx1 x (hma x hx))
          obtain ⟨f, tmps, assign, body, hrun, hrd⟩ := round_in hF hR hJ hvs (h3 lim hlim)
          have hev : a.eval (.tmp t) = .func (.yield l) #[] #[] := by
            show a.tmps.getD t undef = _
            rw [Array.getD_eq_getD_getElem?, htv]; rfl
          refine ⟨fun _ _ => trivial, ?_⟩
          have hex : (o.semAt (wideR none).round a.eval).run P w = .ok (.round l f tmps assign body) w := by
            rw [Oper.semAt_eq _ _ _ (fun c' hc' => by rw [hop] at hc'; cases hc')]
            unfold execOp
            simp only [hop, resolve, hc, hev, Deferred.ofValue, pure_bind, invoke]
            rw [← hrun]
            congr 2
            apply Array.ext'; simp
          rw [hex, Oper.uponIn_round]
          refine ⟨nofun, hrd.mono ?_⟩
          rintro x w' ⟨rfl, F', g', k1, k2, k3⟩
          exact hK F' w' g' k1 k2 k3
        · cases hyo
      · cases hyo
    · cases h
  · cases h

theorem runY_sound (hc : CallSound P call) (hT : TabOk P tab) {base n : Nat} {Y : YC} {yb : YbF} (hy : YbSound P base Y yb) {ops : Array Oper} (hok : opsOk n ops = true) (hK : keepsK [Y.k] ops = true) : ∀ (l : List Oper) (i : Nat) (ys : List Nat) (st st' : St) (ws ws' : List Nat) (p p' : Option Code), (∀ j, l[j]? = ops[i + j]?) →
    runY yb call tab base Y.k ops.toList l ys st ws p = some (st', ws', p') → st.nx ≤ st'.nx ∧ Wrote base st.heap st'.heap ws ws' ∧ ∀ lim, st'.nx ≤ lim → ∀ (l0 : Nat) (E : En) (F : FrS) (a : Act) (w : World) (g : Gh), F.on lim st → Rel E n F a w g → YAt Y l0 E p F a w g → (∀ t ∈ ys, a.tmps[t]? = some (.func (.yield l0) #[] #[])) →
      wpOpsIn (wideR none) 0 P ops (fun e a' w' => e = .normal ∧ ∃ F' g', F'.on lim st' ∧ Rel E n F' a' w' g' ∧ YAt Y l0 E p' F' a' w' g') (List.range' i l.length) a w
  | [], i, ys, st, st', ws, ws', p, p', _, h => by
    simp only [runY, Option.some.injEq, Prod.mk.injEq] at h
    obtain ⟨rfl, rfl, rfl⟩ := h
    exact ⟨Nat.le_refl _, .refl, fun lim _ l0 E F a w g hF hR hJ _ => ⟨rfl, F, g, hF, hR, hJ⟩⟩
  | o :: l, i, ys, st, st', ws, ws', p, p', hl, h => by
    have hi : ops[i]? = some o := by have := hl 0; simpa using this.symm
    have hl' : ∀ j, l[j]? = ops[i + 1 + j]? := fun j => by have := hl (j + 1); simpa [Nat.add_assoc, Nat.add_comm 1 j] using this
    obtain ⟨q1, q2, q3⟩ := opsOk_at hok hi
    have hdk := keepsK_spec hK hi
    have hdk' : o.dst ≠ some Y.k := hdk Y.k (by simp)
    simp only [runY] at h
    simp only [List.length_cons, List.range'_succ]
    have hless : ∀ (l0 : Nat) (a : Act) (v : Value), (∀ t ∈ ys, a.tmps[t]? = some (.func (.yield l0) #[] #[])) → ∀ t ∈ lessD ys o.dst, (a.put o.dst v).tmps[t]? = some (.func (.yield l0) #[] #[]) := by
      intro l0 a v hys t ht
      obtain ⟨k1, k2⟩ := lessD_spec ht
      rw [kept_put (K := [t]) (a0 := a) (fun _ _ => rfl) (fun u hu => by simp only [List.mem_singleton] at hu; rw [hu]; exact k2) t (by simp)]
      exact hys t k1
    split at h
    · rename_i d hmv
      obtain ⟨g1, g2, g3⟩ := runY_sound hc hT hy hok hK l (i + 1) _ _ _ _ _ _ _ hl' h
      refine ⟨g1, g2, fun lim hlim l0 E F a w g hF hR hJ hys => ?_⟩
      unfold isMoveY at hmv
      split at hmv
      · rename_i t hop
        cases hb : (hasN (Y.k :: ys) t && o.guard.isNone)
        · rw [hb] at hmv; cases hmv
        · rw [hb] at hmv
          simp only [cond_true] at hmv
          simp only [Bool.and_eq_true, Option.isNone_iff_eq_none] at hb
          have htv : a.tmps[t]? = some (.func (.yield l0) #[] #[]) := by
            rcases List.mem_cons.1 (hasN_iff.1 hb.1) with rfl | h
            · exact hJ.2.1
            · exact hys t h
          have hev : a.eval (.tmp t) = .func (.yield l0) #[] #[] := by
            show a.tmps.getD t undef = _
            rw [Array.getD_eq_getD_getElem?, htv]; rfl
          have hw : Region.wanted o (yielded ops a.tmps) = true := by simp [Region.wanted, hb.2]
          simp only [wpOpsIn, hi, hw, if_true]
          refine ⟨fun _ _ => trivial, ?_⟩
          have hex : (o.semAt (wideR none).round a.eval).run P w = .ok (.value (.func (.yield l0) #[] #[])) w := by
            rw [Oper.semAt_eq _ _ _ (fun c' hc' => by rw [hop] at hc'; cases hc')]
            unfold execOp
            simp only [hop, hev, Sem.run_pure]
          rw [hex, Oper.uponIn_value]
          rw [hmv] at hdk' q2 ⊢
          refine g3 lim hlim l0 E _ _ _ g (on_putD hF (some d) .undef) (hR.put q2 (by simp only [rep])) (hJ.put hdk') fun u hu => ?_
          have hlt : d < a.tmps.size := Nat.lt_of_lt_of_le (q2 d rfl) hR.sz
          by_cases e : d = u
          · subst e
            simp [Act.put, hlt]
          · rw [kept_put (K := [u]) (a0 := a) (fun _ _ => rfl) (fun x hx => by simp only [List.mem_singleton] at hx; rw [hx]; simpa using e) u (by simp)]
            rcases List.mem_cons.1 hu with rfl | hu
            · exact absurd rfl e
            · exact hys u hu
      · cases hmv
    rename_i hmv
    cases hyo : isYieldO (Y.k :: ys) o with
    | true =>
      rw [hyo] at h
      simp only [cond_true] at h
      split at h
      · rename_i st1 ws1 p1 hx
        unfold yieldX at hx
        split at hx
        · rename_i hgd
          split at hx
          · rename_i e st2 ws2 hd
            simp only [Option.some.injEq, Prod.mk.injEq] at hx
            obtain ⟨rfl, rfl, rfl⟩ := hx
            obtain ⟨h1, h2, h3⟩ := doYield_sound hy q1 hyo hd
            obtain ⟨g1, g2, g3⟩ := runY_sound hc hT hy hok hK l (i + 1) _ _ _ _ _ _ _ hl' h
            refine ⟨Nat.le_trans h1 g1, h2.trans g2, fun lim hlim l0 E F a w g hF hR hJ hys => ?_⟩
            have hw : Region.wanted o (yielded ops a.tmps) = true := by simp [Region.wanted, hgd]
            simp only [wpOpsIn, hi, hw, if_true]
            refine h3 lim (Nat.le_trans g1 hlim) l0 n E F a w g hF hR hJ hys _ _ fun F' w' g' k1 k2 k3 => ?_
            exact g3 lim hlim l0 E _ _ _ g' (on_putD k1 o.dst (.bool e.isN)) (k2.put q2 (by simp only [rep])) (k3.put hdk') (hless l0 a _ hys)
          · cases hx
        · rename_i j want hgd
          split at hx
          · cases hx
          · rename_i t ht
            have ht' : gslot ops j = some t := by
              rw [dstAt_eq] at ht
              simpa [gslot] using ht
            split at hx
            · rename_i hgv
              split at hx
              · rename_i e st2 ws2 hd
                simp only [Option.some.injEq, Prod.mk.injEq] at hx
                obtain ⟨rfl, rfl, rfl⟩ := hx
                obtain ⟨h1, h2, h3⟩ := doYield_sound hy q1 hyo hd
                obtain ⟨g1, g2, g3⟩ := runY_sound hc hT hy hok hK l (i + 1) _ _ _ _ _ _ _ hl' h
                refine ⟨Nat.le_trans h1 g1, h2.trans g2, fun lim hlim l0 E F a w g hF hR hJ hys => ?_⟩
                have hlt : t < a.tmps.size := Nat.lt_of_lt_of_le (q3 j want t hgd ht') hR.sz
                have hw : Region.wanted o (yielded ops a.tmps) = true := wanted_of hgd ht' hlt (by rw [← hF.1] at hgv; exact hR.rd t) (by rw [← hF.1] at hgv; exact hgv)
                simp only [wpOpsIn, hi, hw, if_true]
                refine h3 lim (Nat.le_trans g1 hlim) l0 n E F a w g hF hR hJ hys _ _ fun F' w' g' k1 k2 k3 => ?_
                exact g3 lim hlim l0 E _ _ _ g' (on_putD k1 o.dst (.when true (.bool e.isN))) (k2.put q2 (by simp [rep])) (k3.put hdk') (hless l0 a _ hys)
              · cases hx
            · rename_i hgv
              simp only [Option.some.injEq, Prod.mk.injEq] at hx
              obtain ⟨rfl, rfl, rfl⟩ := hx
              obtain ⟨g1, g2, g3⟩ := runY_sound hc hT hy hok hK l (i + 1) _ _ _ _ _ _ _ hl' h
              refine ⟨g1, g2, fun lim hlim l0 E F a w g hF hR hJ hys => ?_⟩
              have hlt : t < a.tmps.size := Nat.lt_of_lt_of_le (q3 j want t hgd ht') hR.sz
              have hw : Region.wanted o (yielded ops a.tmps) = false := wanted_of hgd ht' hlt (by rw [← hF.1] at hgv; exact hR.rd t) (by rw [← hF.1] at hgv; exact hgv)
              simp only [wpOpsIn, hi, hw, Bool.false_eq_true, if_false]
              exact ⟨fun _ _ => trivial, g3 lim hlim l0 E _ _ _ g (on_putD hF o.dst (.when false .undef)) (hR.put q2 (by simp [rep])) (hJ.put hdk') (hless l0 a _ hys)⟩
            · cases hx
      · cases h
    | false =>
      rw [hyo] at h
      simp only [cond_false] at h
      split at h
      · rename_i out hx
        obtain ⟨h1, h2⟩ := stepX_sound hc hx
        obtain ⟨g1, g2, g3⟩ := runY_sound hc hT hy hok hK l (i + 1) _ _ _ _ _ _ _ hl' h
        refine ⟨Nat.le_trans h1 g1, Wrote.trans (fun id hid hw => ?_) g2, fun lim hlim l0 E F a w g hF hR hJ hys => ?_⟩
        · obtain ⟨k3, k4⟩ := addW_spec base _ _ id hid hw
          refine ⟨k3, ?_⟩
          simp only [St.app, getL_effL]
          exact effH_ne k4
        · obtain ⟨f1, f2⟩ := h2 lim (Nat.le_trans g1 hlim)
          have hk1 : wpOp P ops (fun e a' w' => e = .normal ∧ ∃ g', Rel (E.fork w g F) n (F.app o out) a' w' g') i (wpOps P ops (fun e a' w' => e = .normal ∧ ∃ g', Rel (E.fork w g F) n (F.app o out) a' w' g') []) a w :=
            fires_sound hT hi q1 q2 q3 hR.fork (fires_on hF f1) fun v w' g' hrel => ⟨rfl, g', hrel⟩
          rw [← wpOps_cons] at hk1
          have hk2 := wpOps_in (R := fun a' w' => (∃ g', Rel (E.fork w g F) n (F.app o out) a' w' g') ∧ kept (Y.k :: lessD ys o.dst) a a') (fun a' w' ⟨⟨_, h⟩, _⟩ => h.df) none 0 [] _ _ _ (wpOps_kept (K := Y.k :: lessD ys o.dst) (a0 := a) _ _ _ (fun j hj o' ho' => by
            simp only [List.mem_singleton] at hj
            rw [hj, hi] at ho'
            cases ho'
            intro t ht
            rcases List.mem_cons.1 ht with rfl | ht
            · exact hdk'
            · exact (lessD_spec ht).2) (fun _ _ => rfl) hk1)
          rw [show withA a [] = a from bareA_of hJ.1] at hk2
          refine wpOpsIn_single hk2 ?_
          rintro a' w' ⟨hd', ⟨g', hrel⟩, hkept⟩
          rw [bareA_of hd'] at hrel hkept
          refine g3 lim hlim l0 E _ a' w' g' (on_app hF o _ f2) (hR.join hrel) ?_ fun t ht => (hkept t (by simp [ht])).trans (hys t (lessD_spec ht).1)
          exact stabY E n F _ a a' w w' g g' p hJ (by rw [bareA_of hJ.1]; exact hR) (by rw [bareA_of hd']; exact hrel) (by rw [hd', hJ.1]) (fun t ht => hkept t (by simp only [List.mem_singleton] at ht; simp [ht]))
      · cases h

/-- an iterator's regions -/
def rgY (yb : YbF) (call : FuncId → List D → List (Nat × Blk) → Nat → Option Out) (tab : Nat → TI) (pt : Nat → List (Nat × Nat)) (base k : Nat) : RgF (Option Code) := fun id ops draw st ws p =>
  bif draw then rgPlain (Option Code) call tab pt base id ops draw st ws p else runY yb call tab base k ops.toList ops.toList [] st ws p

theorem rgY_sound (hc : CallSound P call) (hT : TabOk P tab) (hm : P.follows .mixedOrders = true) {pt : Nat → List (Nat × Nat)} {base n : Nat} {Y : YC} {yb : YbF} (hy : YbSound P base Y yb) (l0 : Nat) :
    RgSound P base n none (YAt Y l0) (rgoK [Y.k] n pt) (rgY yb call tab pt base Y.k) := by
  intro id ops draw st ws p st' ws' p' hk h
  unfold rgY at h
  cases draw with
    | true => exact rgPlain_sound hc hT hm stabY id ops true st ws p st' ws' p' hk h
    | false =>
      simp only [cond_false] at h
      simp only [rgoK, regOk, Bool.and_eq_true] at hk
      obtain ⟨h1, h2, h3⟩ := runY_sound hc hT hy hk.1.1.1 hk.2 _ 0 _ _ _ _ _ _ _ (fun j => by simp) h
      refine ⟨h1, h2, fun lim hlim E F a w g hF hR hJ => wpIn_region ?_⟩
      have hb := bareA_of hJ.1
      rw [hb] at hR
      have := h3 lim hlim l0 E F a w g hF hR hJ nofun
      rw [List.range_eq_range']
      simp only [Array.length_toList] at this
      have hmono : ∀ (l : List Nat) (a : Act) (w : World), wpOpsIn (wideR none) 0 P ops (fun e a' w' => e = .normal ∧ ∃ F' g', F'.on lim st' ∧ Rel E n F' a' w' g' ∧ YAt Y l0 E p' F' a' w' g') l a w →
          wpOpsIn (wideR none) 0 P ops (fun e a' w' => ∃ st'_1 s' F' g', (e = .normal ∧ st'_1 = st' ∧ s' = p') ∧ F'.on lim st'_1 ∧ Rel E n F' (bareA a') w' g' ∧ YAt Y l0 E s' F' a' w' g') l a w := by
        intro l
        induction l with
        | nil =>
          rintro a w ⟨_, F', g', k1, k2, k3⟩
          exact ⟨st', p', F', g', ⟨rfl, rfl, rfl⟩, k1, by rw [bareA_of k3.1]; exact k2, k3⟩
        | cons i l ih =>
          intro a w h
          simp only [wpOpsIn] at h ⊢
          cases ho : ops[i]? with
          | none => simp only [ho] at h ⊢; exact ih _ _ h
          | some o =>
            simp only [ho] at h ⊢
            split at h
            · rename_i hw
              rw [if_pos hw]
              refine ⟨h.1, ?_⟩
              have h2 := h.2
              generalize (o.semAt (wideR none).round a.eval).run P w = res at h2
              cases res with
              | ok x w' =>
                cases x with
                | value v => exact ih _ _ h2
                | skip => exact ih _ _ h2
                | defer d => exact ih _ _ h2
                | enter f args =>
                  rw [Oper.uponIn_enter] at h2 ⊢
                  refine ⟨h2.1, h2.2.1, fun cs hr => ?_⟩
                  obtain ⟨e, w2, fr, hq, hrest⟩ := h2.2.2 cs hr
                  refine ⟨e, w2, fr, ?_, hrest⟩
                  cases e with
                  | returned v => exact ih _ _ hq
                  | panicked ch => cases hq.1
                  | outgrown => obtain ⟨_, _, h1, _⟩ := hq; cases h1
                | row row args =>
                  rw [Oper.uponIn_row] at h2 ⊢
                  exact ⟨h2.1, h2.2.mono fun v w'' hq => ih _ _ hq⟩
                | round l f tmps assign body =>
                  rw [Oper.uponIn_round] at h2 ⊢
                  refine ⟨h2.1, h2.2.mono fun e w'' hq => ?_⟩
                  cases e with
                  | returned v => exact ih _ _ hq
                  | panicked ch => cases hq.1
                  | outgrown => obtain ⟨_, _, h1, _⟩ := hq; cases h1
                | _ => exact h2.elim
              | halt x w' =>
                cases x with
                | panic v => cases (show Exit.panic _ = Exit.normal ∧ _ from h2).1
                | _ => exact h2.elim
            · rename_i hw
              rw [if_neg hw]
              exact ⟨h.1, ih _ _ h.2⟩
      exact hmono _ _ _ this
end
end Go.Tm
end
section
/- Ranges over functions whose rounds run: the range, functions that hold such ranges, known calls. -/

namespace Go.Tm
open Go.RowKit Go.WideShapes

section
variable {P : Program} {lim n : Nat} {st : St} {B : List (Nat × Obj)} {tab : Nat → TI}

theorem OkG.rangeY (hT : TabOk P tab) (hB : NoCells B) {gop : Operand} {ps : Array Tmp} {assign body : Code} {K : FuncId} {caps : List D} {fn : Func} {ci : Code} (hk : operandOk gop = true) (hg : ev (getR st.vars) gop = .fn (.func K) caps)
    (hf : P.funcs[K]? = some fn) (hname : fn.name ≠ "runtime.NumGoroutine") (hb : fn.body = some ci) (hlen : caps.length + 1 ≤ fn.ntmps) {sti : St} {p : Option Code} {ds : List D} (hres : resL tab sti fn.results.toList = some (ds, true))
    (hi : ∀ l, OkG P lim fn.ntmps none (YAt ⟨0, n, st.vars, ps, assign, body⟩ l) ci ⟨argVars 0 (.undef :: caps), st.heap, st.nx⟩ none fun e s q => (e = .normal ∨ e = .ret) ∧ s = sti ∧ q = p)
    {e0 : Ex} (hp : e0.pend = p) : OkG P lim n none (JM B) (.rangeFunc gop ps assign body) st () fun e s _ => e = e0.to ∧ s = ⟨st.vars, sti.heap, sti.nx⟩ := by
  intro E F a w g hF hR hJ
  have hgv := rep_ev hR.rd gop hk
  rw [hF.1, hg, bareA_eval] at hgv
  simp only [rep] at hgv
  obtain ⟨cv, hgv, hcv⟩ := hgv
  have hEn : Enters P K := ⟨fn, hf, hname, by rw [hb]; rfl⟩
  refine wpIn_rangeFunc ?_
  intro fn0 _
  obtain ⟨rc, hrc⟩ : ∃ rc : Loop, rc = { state := .ready, pending := none, fn := fn0, tmps := a.tmps, params := ps, assign, body, defers := w.heap.size } := ⟨_, rfl⟩
  obtain ⟨W1, hW1⟩ : ∃ W1, (w.alloc (.deferred (some []))).alloc (.loop rc) = W1 := ⟨_, rfl⟩
  obtain ⟨l, hl0⟩ : ∃ l, l = w.heap.size + 1 := ⟨_, rfl⟩
  have hsz1 : W1.heap.size = w.heap.size + 2 := by rw [← hW1]; simp
  have hL1 : W1.heap[l]? = some (.loop rc) := by
    rw [← hW1, hl0]; have := World.alloc_heap_new (w.alloc (.deferred (some []))) (.loop rc); rwa [World.size_alloc] at this
  have hK1 : W1.heap[w.heap.size]? = some (.deferred (some [])) := by
    rw [← hW1]; exact (Below.heap_alloc _ _ _ (by simp)).trans (World.alloc_heap_new w _)
  have hkeep : Keep (fun _ => False) w W1 := by
    rw [← hW1]; exact (Keep.alloc _ w _).trans (Keep.alloc _ _ _)
  have hR1 : Rel E n F (bareA a) W1 g := Rel.ext hR hkeep
  have hcv1 : reps (cx W1 g F.hp) (.undef :: caps) (.func (.yield l) #[] #[] :: cv) := by
    simp only [reps]
    exact ⟨_, _, rfl, by simp only [rep], reps_le (Rel.ext_le hkeep) _ _ hcv⟩
  have harr : (Value.func (.yield l) #[] #[] :: cv).toArray = #[.func (.yield l) #[] #[]] ++ cv.toArray := by simp
  have hcl : cv.length = caps.length := reps_length _ _ hcv
  refine ⟨l, [mark w.heap.size], W1, { target := .fn (.func K) cv.toArray, args := #[.func (.yield l) #[] #[]] }, W1, K,
    #[.func (.yield l) #[] #[]] ++ cv.toArray, W1, ?_, ?_, fun _ _ => trivial, ?_, nofun, ?_⟩
  · rw [← hW1, hrc, hl0]; exact run_enterLoop_outer _ _ _ _ _
  · simp only [resolve, hgv]
    simp [go_sem]
  · simp [invoke, go_sem, run_enter hEn]
  · have hRi : Rel (E.forkX W1 g F (onlyL l)) fn.ntmps ⟨getR (argVars 0 (.undef :: caps)), F.hp, F.nu⟩ { tmps := (#[.func (.yield l) #[] #[]] ++ cv.toArray) ++ Array.replicate (fn.ntmps - (#[Value.func (.yield l) #[] #[]] ++ cv.toArray).size) undef, defers := [] } W1 g := by
      refine ⟨by simp; omega, rfl, fun t => ?_, hR1.mem, fun id b o h1 h2 => .inr (.inl ⟨id, o, h1, h2⟩), Keep.refl _ _, ⟨rfl, rfl⟩, fun _ _ => rfl, fun _ h => h⟩
      refine getR_args (.undef :: caps) (.func (.yield l) #[] #[] :: cv) 0 t hcv1 _ fun j v hj => ?_
      rw [← harr, Nat.zero_add, Array.getElem?_append_left (by simpa using (List.getElem?_eq_some_iff.1 hj).1)]
      simpa using hj
    have hJi : YAt ⟨0, n, st.vars, ps, assign, body⟩ l (E.forkX W1 g F (onlyL l)) none ⟨getR (argVars 0 (.undef :: caps)), F.hp, F.nu⟩ { tmps := (#[.func (.yield l) #[] #[]] ++ cv.toArray) ++ Array.replicate (fn.ntmps - (#[Value.func (.yield l) #[] #[]] ++ cv.toArray).size) undef, defers := [] } W1 g := by
      refine ⟨rfl, ?_, .inr (.inr rfl), rc, hL1, ?_⟩
      · rw [← harr]
        show (_ ++ _ : Array Value)[0]? = _
        rw [Array.getElem?_append_left (by simp)]
        simp
      · rw [hrc]
        refine ⟨rfl, rfl, rfl, rfl, rfl, hR.sz, fun t => ?_⟩
        have := hR1.rd t
        rw [hF.1] at this
        exact this
    refine calls_in (calls_of_wp hf hb (wpIn_wide.1 (wpIn_mono (hi l (E.forkX W1 g F (onlyL l)) ⟨getR (argVars 0 (.undef :: caps)), F.hp, F.nu⟩ _ W1 g ⟨rfl, hF.2.1, hF.2.2⟩ hRi hJi) ?_)))
    rintro e' a' w' ⟨s, q, F', g', ⟨he, rfl, rfl⟩, hF', hR', hd', hy', _, rcp, hl', hrcp⟩
    rw [bareA_of hd'] at hR'
    obtain ⟨v, hv, _⟩ := results_ok hT hR' hF'.1 hF'.2.1 hres
    obtain ⟨W4, hW4⟩ : ∃ W4, W4 = w'.putObj l (.loop { rcp with state := .exhausted }) := ⟨_, rfl⟩
    have hl4 : W4.heap[l]? = some (.loop { rcp with state := .exhausted }) := by
      rw [hW4]; exact World.putObj_heap_same (Array.getElem?_eq_some_iff.1 hl').1
    have hR4 : Rel (E.forkX W1 g F (onlyL l)) fn.ntmps F' a' W4 g' := by
      rw [hW4]; exact hR'.setObjX hl' (.inr (.inr rfl)) (by simp) (by simp) (by simp)
    have hX : ∀ b, onlyL l b → ∃ o, W1.heap[b]? = some o ∧ ∀ cs T f, o ≠ .cells cs T f := by
      intro b hb; rw [show b = l from hb]; exact ⟨_, hL1, by simp⟩
    have hX2 : ∀ b, onlyL l b → ¬ ownB g' F'.hp b := by
      intro b hb; rw [show b = l from hb]; exact not_own hR4.mem hl4 (by simp) (by simp)
    have hlE : E.w0.heap.size ≤ w.heap.size := hR.keep.size
    have hnewX : ∀ b, onlyL l b → E.w0.heap.size ≤ b ∨ E.X b := by
      intro b hb; rw [show b = l from hb]; exact .inl (by omega)
    have hR5 := hR1.swap hR4 hX hX2 hnewX
    have hstay : ∀ (b : Nat) (o : Obj), W1.heap[b]? = some o → b ≠ l → (∀ cs T f, o ≠ .cells cs T f) → (∀ es c, o ≠ .map es c) → W4.heap[b]? = some o := by
      intro b o hb hne h1 h2
      rw [hR4.keep.block b (Array.getElem?_eq_some_iff.1 hb).1 ?_]
      · exact hb
      · rintro (h | h)
        · exact not_own hR1.mem hb h1 h2 h
        · exact hne h
    have hJ5 : JM B E () ⟨F.rd, F'.hp, F'.nu⟩ { a with defers := [mark w.heap.size] ++ a.defers } W4 g' := by
      obtain ⟨⟨Ds, hDs, hnd, hall⟩, hBs⟩ := hJ
      have old : ∀ D ∈ Ds, D < w.heap.size := fun D hD => (Array.getElem?_eq_some_iff.1 (hall D hD).2).1
      refine ⟨⟨w.heap.size :: Ds, by simp [hDs, mark], List.nodup_cons.2 ⟨fun h => by have := old _ h; omega, hnd⟩, fun D hD => ?_⟩, fun x hx => ?_⟩
      · rcases List.mem_cons.1 hD with rfl | h
        · exact ⟨hlE, hstay _ _ hK1 (by omega) (by simp) (by simp)⟩
        · refine ⟨(hall D h).1, hstay _ _ ?_ (by have := old D h; omega) (by simp) (by simp)⟩
          rw [hkeep.block D (old D h) id]; exact (hall D h).2
      · have h := hBs x hx
        have hlt : x.1 < w.heap.size := (Array.getElem?_eq_some_iff.1 h).1
        refine hstay _ _ ?_ (by omega) (hB x hx).1 (hB x hx).2
        rw [hkeep.block _ hlt id]; exact h
    have hend : (Instr.endLoop l).run P w' = .ok q W4 := by
      have := run_endLoop (P := P) hl' (by rw [hrcp.st]; cases q <;> simp)
      rw [← hW4] at this
      rw [this, hrcp.pe]
    have post : rangePost (wideR none) 0 P l (fun e a' w' => ∃ st' s' F' g', (e = e0.to ∧ st' = ⟨st.vars, s.heap, s.nx⟩) ∧ F'.on lim st' ∧ Rel E n F' (bareA a') w' g' ∧ JM B E s' F' a' w' g') { a with defers := [mark w.heap.size] ++ a.defers } (.returned v) w' := by
      refine ⟨q, W4, hend, ?_⟩
      have fin : ∃ st' s' F' g', (e0.to = e0.to ∧ st' = ⟨st.vars, s.heap, s.nx⟩) ∧ F'.on lim st' ∧ Rel E n F' (bareA { a with defers := [mark w.heap.size] ++ a.defers }) W4 g' ∧ JM B E s' F' { a with defers := [mark w.heap.size] ++ a.defers } W4 g' :=
        ⟨_, (), ⟨F.rd, F'.hp, F'.nu⟩, g', ⟨rfl, rfl⟩, ⟨hF.1, hF'.2.1, hF'.2.2⟩, hR5, hJ5⟩
      subst hp
      cases e0 with
      | normal => exact fin
      | exit i => exact wpIn_exit fin
      | ret => exact wpIn_ret fin
    rcases he with rfl | rfl <;> exact ⟨hd', v, hv, post⟩
end

/-! ## The evaluator -/
section
variable {P : Program} {tab : Nat → TI} {call : FuncId → List D → List (Nat × Blk) → Nat → Option Out}

def rfNone (S : Type) : RfF S := fun _ _ _ _ _ _ _ => none
def rfoNone : Operand → Array Tmp → Code → Code → Bool := fun _ _ _ _ => false

theorem rfNone_sound {S : Type} {base n : Nat} {r : Option Nat} {J : En → S → FrS → Act → World → Gh → Prop} : RfSound P base n r J rfoNone (rfNone S) := fun _ _ _ _ _ _ _ _ _ _ _ _ h => by cases h

def mkYb (call : FuncId → List D → List (Nat × Blk) → Nat → Option Out) (tab : Nat → TI) (pt : Nat → List (Nat × Nat)) (base m : Nat) (Y : YC) : YbF := fun ds heap nx ws =>
  bif Nat.beq ds.length Y.ps.size && Y.ps.toList.all (fun t => Nat.blt t Y.n) then
    match runZ (rgPlain Unit call tab pt base) (rfNone Unit) m Y.assign ⟨putAll Y.ps.toList ds Y.vars, heap, nx⟩ ws () with
    | some (.normal, st1, ws1, _) => match runZ (rgPlain Unit call tab pt base) (rfNone Unit) m Y.body st1 ws1 () with
      | some (e, st2, ws2, _) => some (e, st2.heap, st2.nx, ws2)
      | none => none
    | _ => none
  else none

theorem mkYb_sound (hc : CallSound P call) (hT : TabOk P tab) (hm : P.follows .mixedOrders = true) {pt : Nat → List (Nat × Nat)} {base m : Nat} {Y : YC} (ha : codeZ (rgoK [] Y.n pt) rfoNone Y.assign = true) (hb : codeZ (rgoK [] Y.n pt) rfoNone Y.body = true) : YbSound P base Y (mkYb call tab pt base m Y) := by
  intro ds heap nx ws e heap' nx' ws' h
  unfold mkYb at h
  cases hc1 : (Nat.beq ds.length Y.ps.size && Y.ps.toList.all (fun t => Nat.blt t Y.n))
  · rw [hc1] at h; cases h
  · rw [hc1] at h
    simp only [Bool.and_eq_true] at hc1
    simp only [cond_true] at h
    split at h
    · rename_i st1 ws1 _ h1
      split at h
      · rename_i e2 st2 ws2 _ h2
        simp only [Option.some.injEq, Prod.mk.injEq] at h
        obtain ⟨rfl, rfl, rfl, rfl⟩ := h
        have S1 := fun (l : Nat) (B : List (Nat × Obj)) (hB : NoCells B) => runZ_sound (base := base) (r := some l) (rgPlain_sound (S := Unit) hc hT hm (stabM hB)) rfNone_sound m _ _ _ _ _ _ _ _ ha h1
        have S2 := fun (l : Nat) (B : List (Nat × Obj)) (hB : NoCells B) => runZ_sound (base := base) (r := some l) (rgPlain_sound (S := Unit) hc hT hm (stabM hB)) rfNone_sound m _ _ _ _ _ _ _ _ hb h2
        obtain ⟨q1, q2, _⟩ := S1 0 [] (by intro x hx; cases hx)
        obtain ⟨q3, q4, _⟩ := S2 0 [] (by intro x hx; cases hx)
        refine ⟨Nat.le_trans q1 q3, q2.trans q4, fun lim hlim => ⟨Nat.eq_of_beq_eq_true hc1.1, fun t ht => Nat.le_of_ble_eq_true (List.all_eq_true.1 hc1.2 t ht), st1, st2, rfl, rfl, fun l B hB => ?_, fun l B hB => ?_⟩⟩
        · exact ((S1 l B hB).2.2 lim (Nat.le_trans q3 hlim)).1.mono fun e' s' _ ⟨k1, k2, _⟩ => ⟨k1, k2⟩
        · exact ((S2 l B hB).2.2 lim hlim).1.mono fun e' s' _ ⟨k1, k2, _⟩ => ⟨k1, k2⟩
      · cases h
    · cases h

def exOf : Option Code → Option Ex
  | none => some .normal
  | some .ret => some .ret
  | some (.exit i) => some (.exit i)
  | _ => none

theorem exOf_pend {p : Option Code} {e : Ex} (h : exOf p = some e) : e.pend = p := by
  unfold exOf at h
  split at h <;> first | (cases h; rfl) | cases h

def endY (tab : Nat → TI) (fn : Func) (st sti : St) (ws : List Nat) (p : Option Code) : Option (Ex × St × List Nat × Unit) := match resL tab sti fn.results.toList, exOf p with
  | some (_, true), some e => some (e, ⟨st.vars, sti.heap, sti.nx⟩, ws, ())
  | _, _ => none

def rfY (fti : Nat → Option Func) (pti : Nat → Nat → List (Nat × Nat)) (call : FuncId → List D → List (Nat × Blk) → Nat → Option Out) (tab : Nat → TI) (pt : Nat → List (Nat × Nat)) (base n m : Nat) : RfF Unit := fun gop ps assign body st ws _ =>
  match ev (getR st.vars) gop with
  | .fn (.func K) caps => match fti K with
    | some fn => match fn.body with
      | some ci => bif Nat.ble (caps.length + 1) fn.ntmps then
        match runZ (rgY (mkYb call tab pt base m ⟨0, n, st.vars, ps, assign, body⟩) call tab (pti K) base 0) (rfNone (Option Code)) m ci ⟨argVars 0 (.undef :: caps), st.heap, st.nx⟩ ws none with
        | some (.normal, sti, ws', p) => endY tab fn st sti ws' p
        | some (.ret, sti, ws', p) => endY tab fn st sti ws' p
        | _ => none
        else none
      | none => none
    | none => none
  | _ => none

def rfoY (n : Nat) (pt : Nat → List (Nat × Nat)) : Operand → Array Tmp → Code → Code → Bool := fun gop _ assign body => operandOk gop && codeZ (rgoK [] n pt) rfoNone assign && codeZ (rgoK [] n pt) rfoNone body

def FtiOk (P : Program) (fti : Nat → Option Func) (pti : Nat → Nat → List (Nat × Nat)) : Prop :=
  ∀ K fn, fti K = some fn → P.funcs[K]? = some fn ∧ fn.name ≠ "runtime.NumGoroutine" ∧ ∀ c, fn.body = some c → codeZ (rgoK [0] fn.ntmps (pti K)) rfoNone c = true

theorem rfY_sound (hc : CallSound P call) (hT : TabOk P tab) (hm : P.follows .mixedOrders = true) {fti : Nat → Option Func} {pti : Nat → Nat → List (Nat × Nat)} (hfi : FtiOk P fti pti) {pt : Nat → List (Nat × Nat)} {base n m : Nat} {B : List (Nat × Obj)} (hB : NoCells B) :
    RfSound P base n none (JM B) (rfoY n pt) (rfY fti pti call tab pt base n m) := by
  intro gop ps assign body st ws s e st' ws' s' hk h
  simp only [rfoY, Bool.and_eq_true] at hk
  unfold rfY at h
  split at h
  · rename_i K caps hev
    split at h
    · rename_i fn hfn
      obtain ⟨f1, f2, f3⟩ := hfi K fn hfn
      split at h
      · rename_i ci hb
        cases hlen : Nat.ble (caps.length + 1) fn.ntmps
        · rw [hlen] at h; cases h
        · rw [hlen] at h
          simp only [cond_true] at h
          have hy : YbSound P base ⟨0, n, st.vars, ps, assign, body⟩ (mkYb call tab pt base m ⟨0, n, st.vars, ps, assign, body⟩) := mkYb_sound hc hT hm hk.1.2 hk.2
          have fin : ∀ (ei : Ex) (sti : St) (wsi : List Nat) (p : Option Code), (ei = .normal ∨ ei = .ret) → runZ (rgY (mkYb call tab pt base m ⟨0, n, st.vars, ps, assign, body⟩) call tab (pti K) base 0) (rfNone (Option Code)) m ci ⟨argVars 0 (.undef :: caps), st.heap, st.nx⟩ ws none = some (ei, sti, wsi, p) →
              endY tab fn st sti wsi p = some (e, st', ws', s') → st.nx ≤ st'.nx ∧ Wrote base st.heap st'.heap ws ws' ∧ ∀ lim, st'.nx ≤ lim → OkG P lim n none (JM B) (.rangeFunc gop ps assign body) st s fun e' t q => e' = e.to ∧ t = st' ∧ q = s' := by
            intro ei sti wsi p hei hr he
            unfold endY at he
            split at he
            · rename_i ds e1 hres hex
              simp only [Option.some.injEq, Prod.mk.injEq] at he
              obtain ⟨rfl, rfl, rfl, _⟩ := he
              have S := fun l : Nat => runZ_sound (base := base) (r := none) (rgY_sound (n := fn.ntmps) (pt := pti K) hc hT hm hy l) rfNone_sound m _ _ _ _ _ _ _ _ (f3 ci hb) hr
              obtain ⟨q1, q2, _⟩ := S 0
              refine ⟨q1, q2, fun lim hlim => ?_⟩
              refine (OkG.rangeY hT hB hk.1.1 hev f1 f2 hb (Nat.le_of_ble_eq_true hlen) hres (p := p) (fun l => ((S l).2.2 lim hlim).1.mono ?_) (exOf_pend hex)).mono fun e' t _ ⟨k1, k2⟩ => ⟨k1, k2, rfl⟩
              rintro e' t q ⟨rfl, rfl, rfl⟩
              exact ⟨hei.imp (fun h => by rw [h]; rfl) (fun h => by rw [h]; rfl), rfl, rfl⟩
            · cases he
          split at h
          · rename_i sti wsi p hr
            exact fin _ sti wsi p (.inl rfl) hr h
          · rename_i sti wsi p hr
            exact fin _ sti wsi p (.inr rfl) hr h
          · cases h
      · cases h
    · cases h
  · cases h

theorem OkG.toR {lim n : Nat} {c : Code} {st : St} {Q : Exit → St → Unit → Prop} (h : OkG P lim n none (JM []) c st () Q) : OkR P lim n none c st fun e s => Q e s () :=
  fun E F a w g hF hR hM => wpIn_mono (h E F a w g hF hR ⟨hM, nofun⟩) fun _ _ _ ⟨st', _, F', g', h1, h2, h3, h4⟩ => ⟨st', F', g', h1, h2, h3, h4.1⟩

/-- one level of a run, of a function that ranges over functions -/
def runFI (ft fti : Nat → Option Func) (pt : Nat → Nat → List (Nat × Nat)) (tab : Nat → TI) (LF : Nat) (call : FuncId → List D → List (Nat × Blk) → Nat → Option Out) (K : FuncId) (args : List D) (heap : List (Nat × Blk)) (nx : Nat) : Option Out :=
  match ft K with
    | none => none
    | some fn => match fn.body with
      | none => none
      | some c => bif Nat.ble args.length fn.ntmps then
        match runZ (rgPlain Unit call tab (pt K) nx) (rfY fti pt call tab (pt K) nx fn.ntmps LF) LF c ⟨argVars 0 args, reachL heap nx LF (D.idsL args), nx⟩ [] () with
        | some (.normal, st, ws, _) => match resL tab st fn.results.toList with
          | some (ds, true) => some (finX (reachL heap nx LF (D.idsL args)) nx st ws LF (resT ds))
          | _ => none
        | some (.ret, st, ws, _) => match resL tab st fn.results.toList with
          | some (ds, true) => some (finX (reachL heap nx LF (D.idsL args)) nx st ws LF (resT ds))
          | _ => none
        | _ => none
        else none

def FtOkI (P : Program) (ft : Nat → Option Func) (pt : Nat → Nat → List (Nat × Nat)) : Prop :=
  ∀ K fn, ft K = some fn → P.funcs[K]? = some fn ∧ fn.name ≠ "runtime.NumGoroutine" ∧ ∀ c, fn.body = some c → codeZ (rgoK [] fn.ntmps (pt K)) (rfoY fn.ntmps (pt K)) c = true

theorem runFI_sound (hT : TabOk P tab) (hm : P.follows .mixedOrders = true) {ft fti : Nat → Option Func} {pt : Nat → Nat → List (Nat × Nat)} (hft : FtOkI P ft pt) (hfi : FtiOk P fti pt) {LF : Nat} (hc : CallSound P call) : CallSound P (runFI ft fti pt tab LF call) := fun K args heap nx out h => by
    simp only [runFI] at h
    split at h
    · cases h
    · rename_i fn hfn
      split at h
      · cases h
      · rename_i c hb
        obtain ⟨f1, f2, f3⟩ := hft K fn hfn
        cases hlen : Nat.ble args.length fn.ntmps
        · rw [hlen] at h; cases h
        · rw [hlen] at h
          simp only [cond_true] at h
          have hsub : ∀ id b, getL (reachL heap nx LF (D.idsL args)) id = some b → getL heap id = some b := fun id b hg => reach_sub LF (D.idsL args) [] (h := heap) (fun x hx => by cases hx) _ (List.mem_filter.1 (getL_memP hg)).1
          have hlow : ∀ id b, getL (reachL heap nx LF (D.idsL args)) id = some b → id < nx := fun id b hg => Nat.le_of_ble_eq_true (List.mem_filter.1 (getL_memP hg)).2
          have fin : ∀ (e : Ex) (st : St) (ws : List Nat) (u : Unit), (e = .normal ∨ e = .ret) → runZ (rgPlain Unit call tab (pt K) nx) (rfY fti pt call tab (pt K) nx fn.ntmps LF) LF c ⟨argVars 0 args, reachL heap nx LF (D.idsL args), nx⟩ [] () = some (e, st, ws, u) →
              (match resL tab st fn.results.toList with | some (ds, true) => some (finX (reachL heap nx LF (D.idsL args)) nx st ws LF (resT ds)) | _ => none) = some out →
              ∃ H, CallH P K args H out.d out.eff out.nw ∧ (∀ id b, getL H id = some b → getL heap id = some b) ∧ (∀ x ∈ out.eff, x.1 ∈ H.map (·.1) ∨ out.nw.1 ≤ x.1 ∧ x.1 < out.nw.2) ∧ out.met = H.map (·.1) ∧ out.vc = true ∧ out.nw.1 = nx ∧ nx ≤ out.nw.2 := by
            intro e st ws u he hr h
            split at h
            · rename_i ds hres
              cases h
              have hNB : NoCells [] := by intro x hx; cases hx
              obtain ⟨h1, h2, h3⟩ := runZ_sound (rgPlain_sound (S := Unit) (n := fn.ntmps) hc hT hm (stabM hNB)) (rfY_sound (n := fn.ntmps) hc hT hm hfi hNB) LF c _ _ _ _ _ _ _ (f3 c hb) hr
              have hE : ∀ x ∈ (finX (reachL heap nx LF (D.idsL args)) nx st ws LF (resT ds)).eff, x.1 ∈ (reachL heap nx LF (D.idsL args)).map (·.1) ∨ nx ≤ x.1 ∧ x.1 < st.nx := by
                intro x hx
                simp only [finX, List.mem_append, List.mem_map, List.mem_filter, Bool.and_eq_true] at hx
                rcases hx with ⟨i, ⟨_, hi⟩, rfl⟩ | ⟨y, ⟨_, hy1, hy2⟩, rfl⟩
                · exact .inl (hasN_iff.1 hi)
                · exact .inr ⟨Nat.le_of_ble_eq_true hy1, Nat.le_of_ble_eq_true hy2⟩
              refine ⟨reachL heap nx LF (D.idsL args), ?_, hsub, hE, rfl, rfl, rfl, h1⟩
              refine callH_introR hT f1 hb f2 (Nat.le_of_ble_eq_true hlen) hE ?_
              refine ((h3 st.nx (Nat.le_refl _)).1.toR).mono ?_
              rintro e' s ⟨rfl, rfl, _⟩
              refine ⟨(he.imp (fun h => by rw [h]; rfl) (fun h => by rw [h]; rfl)), ds, hres, rfl, effL (reachL heap nx LF (D.idsL args)) (finX (reachL heap nx LF (D.idsL args)) nx s ws LF (resT ds)).eff, ?_, getL_effL _ _⟩
              intro i x hx
              rw [getL_effL] at hx
              unfold effH at hx
              cases hg : getL (finX (reachL heap nx LF (D.idsL args)) nx s ws LF (resT ds)).eff i with
              | some ob =>
                rw [hg] at hx
                have hx : ob = some x := hx
                subst hx
                have := getL_memP hg
                simp only [finX, List.mem_append, List.mem_map, List.mem_filter] at this
                rcases this with ⟨j, _, hj⟩ | ⟨y, ⟨hy, _⟩, hj⟩
                · simp only [Prod.mk.injEq] at hj
                  obtain ⟨rfl, hj⟩ := hj
                  exact hj
                · simp only [Prod.mk.injEq, Option.some.injEq] at hj
                  obtain ⟨rfl, rfl⟩ := hj
                  exact reach_sub LF _ [] (fun x hx => by cases hx) y hy
              | none =>
                rw [hg] at hx
                have hx : getL (reachL heap nx LF (D.idsL args)) i = some x := hx
                have hin : i ∈ (reachL heap nx LF (D.idsL args)).map (·.1) := getL_mem hx
                have hnw : i ∉ ws := by
                  intro hw
                  have hfind : ∀ (l : List (Nat × Option Blk)), getL l i = none → i ∉ l.map (·.1) := by
                    intro l
                    induction l with
                    | nil => intro _ h; cases h
                    | cons y l ih =>
                      obtain ⟨q, z⟩ := y
                      intro h h'
                      simp only [getL] at h
                      cases hbq : Nat.beq q i
                      · rw [hbq] at h
                        simp only [List.map_cons, List.mem_cons] at h'
                        rcases h' with h' | h'
                        · rw [h'] at hbq; simp at hbq
                        · exact ih h h'
                      · rw [hbq] at h; cases h
                  refine hfind _ hg ?_
                  simp only [finX, List.map_append, List.mem_append, List.map_map, List.mem_map, List.mem_filter]
                  exact .inl ⟨i, ⟨hw, hasN_iff.2 hin⟩, rfl⟩
                rw [(h2 i (hlow i x hx) hnw).2]; exact hx
            · cases h
          split at h
          · rename_i st ws u hr
            exact fin _ st ws u (.inl rfl) hr h
          · rename_i st ws u hr
            exact fin _ st ws u (.inr rfl) hr h
          · cases h
end

/-! ## Known calls -/
def bodyOkI (fn : Func) (pt : Nat → List (Nat × Nat)) : Bool := match fn.body with
  | some c => codeZ (rgoK [] fn.ntmps pt) (rfoY fn.ntmps pt) c
  | none => true
def bodyOkY (fn : Func) (pt : Nat → List (Nat × Nat)) : Bool := match fn.body with
  | some c => codeZ (rgoK [0] fn.ntmps pt) rfoNone c
  | none => true

/-- the functions that range over functions (true), and those that are ranged over (false) -/
inductive FtLI (P : Program) (pt : Nat → Nat → List (Nat × Nat)) (ok : Func → (Nat → List (Nat × Nat)) → Bool) : List (Nat × Func) → Prop
  | nil : FtLI P pt ok []
  | cons {K : Nat} {fn : Func} {l : List (Nat × Func)} (hf : P.funcs[K]? = some fn) (hn : fn.name ≠ "runtime.NumGoroutine") (hb : ok fn (pt K) = true) (h : FtLI P pt ok l) : FtLI P pt ok ((K, fn) :: l)

theorem FtLI.get {P : Program} {pt : Nat → Nat → List (Nat × Nat)} {ok : Func → (Nat → List (Nat × Nat)) → Bool} : ∀ {l : List (Nat × Func)}, FtLI P pt ok l → ∀ K fn, getL l K = some fn → P.funcs[K]? = some fn ∧ fn.name ≠ "runtime.NumGoroutine" ∧ ok fn (pt K) = true
  | [], _ => fun K fn h => by cases h
  | (K0, fn0) :: l, .cons hf hn hb h => fun K fn hk => by
    simp only [getL] at hk
    cases hb' : Nat.beq K0 K
    · rw [hb'] at hk; exact h.get K fn hk
    · rw [hb'] at hk
      cases hk
      obtain rfl := Nat.eq_of_beq_eq_true hb'
      exact ⟨hf, hn, hb⟩

theorem FtLI.okI {P : Program} {pt : Nat → Nat → List (Nat × Nat)} {l : List (Nat × Func)} (h : FtLI P pt bodyOkI l) : FtOkI P (getL l) pt := fun K fn hg => by
  obtain ⟨h1, h2, h3⟩ := h.get K fn hg
  refine ⟨h1, h2, fun c hc => ?_⟩
  unfold bodyOkI at h3
  rw [hc] at h3
  exact h3
theorem FtLI.okY {P : Program} {pt : Nat → Nat → List (Nat × Nat)} {l : List (Nat × Func)} (h : FtLI P pt bodyOkY l) : FtiOk P (getL l) pt := fun K fn hg => by
  obtain ⟨h1, h2, h3⟩ := h.get K fn hg
  refine ⟨h1, h2, fun c hc => ?_⟩
  unfold bodyOkY at h3
  rw [hc] at h3
  exact h3

end Go.Tm
end
section
/- Orders of regions by masks: a table of ancestors, checked, in place of a search. -/

namespace Go.Tm
open Go.RowKit Go.WideShapes

/-- what stands ahead by these edges -/
def maskE (ms : List Nat) (i : Nat) : List Edge → Nat → Option Nat
  | [], acc => some acc
  | e :: l, acc => bif Region.binds .any e then (bif Nat.blt e.on i then maskE ms i l (Nat.lor acc (Nat.lor (Nat.shiftLeft 1 e.on) (ms.getD e.on 0))) else none) else maskE ms i l acc

def masksOk (ops : Array Oper) (ms : List Nat) : Bool :=
  (List.range ops.size).all fun i => match ops[i]? with
    | some o => (match maskE ms i o.after.toList 0 with | some m => Nat.beq m (ms.getD i 0) | none => false)
    | none => false

theorem maskE_bit {ms : List Nat} {i j : Nat} : ∀ (l : List Edge) (acc m : Nat), maskE ms i l acc = some m → m.testBit j = true → acc.testBit j = true ∨ ∃ e ∈ l, Region.binds .any e = true ∧ e.on < i ∧ (e.on = j ∨ (ms.getD e.on 0).testBit j = true)
  | [], acc, m, h, hb => by
    simp only [maskE, Option.some.injEq] at h
    subst h
    exact .inl hb
  | e :: l, acc, m, h, hb => by
    simp only [maskE] at h
    cases hbd : Region.binds .any e
    · rw [hbd] at h
      rcases maskE_bit l acc m h hb with h1 | ⟨e', h1, h2⟩
      · exact .inl h1
      · exact .inr ⟨e', List.mem_cons_of_mem _ h1, h2⟩
    · rw [hbd] at h
      simp only [cond_true] at h
      cases hlt : Nat.blt e.on i
      · rw [hlt] at h; cases h
      · rw [hlt] at h
        simp only [cond_true] at h
        rcases maskE_bit l _ m h hb with h1 | ⟨e', h1, h2⟩
        · have h1 : (acc ||| ((1 <<< e.on) ||| ms.getD e.on 0)).testBit j = true := h1
          rw [Nat.testBit_or, Nat.testBit_or, Bool.or_eq_true, Bool.or_eq_true] at h1
          rcases h1 with h1 | h1 | h1
          · exact .inl h1
          · refine .inr ⟨e, by simp, hbd, Nat.le_of_ble_eq_true hlt, .inl ?_⟩
            rw [Nat.testBit_shiftLeft] at h1
            simp only [Bool.and_eq_true, decide_eq_true_eq] at h1
            have h2 := h1.2
            have : j - e.on = 0 := by
              cases hz : j - e.on with
              | zero => rfl
              | succ k => rw [hz] at h2; simp [Nat.testBit_succ] at h2
            omega
          · exact .inr ⟨e, by simp, hbd, Nat.le_of_ble_eq_true hlt, .inr h1⟩
        · exact .inr ⟨e', List.mem_cons_of_mem _ h1, h2⟩

theorem anc_of_mask {ops : Array Oper} {ms : List Nat} (h : masksOk ops ms = true) {j : Nat} : ∀ (f i : Nat), i < f → i < ops.size → (ms.getD i 0).testBit j = true → anc ops f i j = true
  | 0, i, hf, _, _ => absurd hf (Nat.not_lt_zero _)
  | f + 1, i, hf, hi, hb => by
    have := List.all_eq_true.1 h i (by simpa using hi)
    have ho : ops[i]? = some ops[i] := Array.getElem?_eq_getElem hi
    simp only [ho] at this
    split at this
    · rename_i m hm
      rw [← Nat.eq_of_beq_eq_true this] at hb
      rcases maskE_bit _ _ _ hm hb with h1 | ⟨e, h1, h2, h3, h4⟩
      · simp at h1
      · simp only [anc, ho]
        refine List.any_eq_true.2 ⟨e, h1, ?_⟩
        simp only [h2, Bool.true_and, Bool.or_eq_true]
        rcases h4 with h4 | h4
        · left; rw [h4]; simp
        · exact .inr (anc_of_mask h f e.on (by omega) (by omega) h4)
    · cases this

def slotsOkM (ops : Array Oper) (ms : List Nat) : Bool :=
  (List.range ops.size).all fun i => match ops[i]? with
    | some oi => (oi.after.toList.all fun e => !Region.binds .any e || Nat.blt e.on i) &&
      (List.range i).all fun j => (ms.getD i 0).testBit j || (match ops[j]? with | some oj => oj.apart ops oi | none => true)
    | none => true

theorem slotsOk_of_M {ops : Array Oper} {ms : List Nat} (h : masksOk ops ms = true) (hs : slotsOkM ops ms = true) : slotsOk ops = true := by
  refine List.all_eq_true.2 fun i hi => ?_
  have := List.all_eq_true.1 hs i hi
  have hlt : i < ops.size := by simpa using hi
  have ho : ops[i]? = some ops[i] := Array.getElem?_eq_getElem hlt
  simp only [ho, Bool.and_eq_true] at this ⊢
  refine ⟨this.1, List.all_eq_true.2 fun j hj => ?_⟩
  have := List.all_eq_true.1 this.2 j hj
  simp only [Bool.or_eq_true] at this ⊢
  exact this.imp (fun hb => anc_of_mask h _ _ hlt hlt hb) id

def coverM (ops : Array Oper) (pairs : List (Nat × Nat)) (ms : List Nat) : Bool :=
  (List.range ops.size).all fun i => (List.range i).all fun j => (ms.getD i 0).testBit j || pairs.any fun x => Nat.beq x.1 j && Nat.beq x.2 i

theorem cover_of_M {ops : Array Oper} {ms : List Nat} {pairs : List (Nat × Nat)} (h : masksOk ops ms = true) (hs : coverM ops pairs ms = true) : cover ops pairs = true := by
  refine List.all_eq_true.2 fun i hi => List.all_eq_true.2 fun j hj => ?_
  have hlt : i < ops.size := by simpa using hi
  have := List.all_eq_true.1 (List.all_eq_true.1 hs i hi) j hj
  simp only [Bool.or_eq_true] at this ⊢
  exact this.imp (fun hb => anc_of_mask h _ _ hlt hlt hb) id

def regM (n : Nat) (ops : Array Oper) (draw : Bool) (pairs : List (Nat × Nat)) (ms : List Nat) : Bool :=
  opsOk n ops && (!draw || (masksOk ops ms && slotsOkM ops ms && coverM ops pairs ms))

theorem reg_of_M {n : Nat} {ops : Array Oper} {draw : Bool} {pairs : List (Nat × Nat)} {ms : List Nat} (h : regM n ops draw pairs ms = true) : (regOk n ops draw && (!draw || cover ops pairs)) = true := by
  simp only [regM, Bool.and_eq_true, Bool.or_eq_true, Bool.not_eq_true'] at h
  simp only [regOk, Bool.and_eq_true, Bool.or_eq_true, Bool.not_eq_true']
  refine ⟨⟨h.1, ?_⟩, ?_⟩
  · exact h.2.imp id fun h => slotsOk_of_M h.1.1 h.1.2
  · exact h.2.imp id fun h => cover_of_M h.1.1 h.2

def codeM (n : Nat) (pt : Nat → List (Nat × Nat)) (mt : Nat → List Nat) : Code → Bool
  | .skip => true
  | .region id ops draw => regM n ops draw (pt id) (mt id)
  | .seq a b => codeM n pt mt a && codeM n pt mt b
  | .cond c a b => operandOk c && codeM n pt mt a && codeM n pt mt b
  | .block _ b => codeM n pt mt b
  | .loop b => codeM n pt mt b
  | .exit _ => true
  | .ret => true
  | .label _ => true
  | .scope b => codeM n pt mt b
  | _ => false

theorem code_of_M {n : Nat} {pt : Nat → List (Nat × Nat)} {mt : Nat → List Nat} : ∀ c : Code, codeM n pt mt c = true → codeOk n pt c = true
  | .skip, _ => rfl
  | .region id ops draw, h => by simp only [codeM] at h; simp only [codeOk]; exact reg_of_M h
  | .seq a b, h => by
    simp only [codeM, Bool.and_eq_true] at h
    simp only [codeOk, Bool.and_eq_true]
    exact ⟨code_of_M a h.1, code_of_M b h.2⟩
  | .cond c a b, h => by
    simp only [codeM, Bool.and_eq_true] at h
    simp only [codeOk, Bool.and_eq_true]
    exact ⟨⟨h.1.1, code_of_M a h.1.2⟩, code_of_M b h.2⟩
  | .block _ b, h => by simp only [codeM] at h; simp only [codeOk]; exact code_of_M b h
  | .loop b, h => by simp only [codeM] at h; simp only [codeOk]; exact code_of_M b h
  | .exit _, _ => rfl
  | .ret, _ => rfl
  | .label _, _ => rfl
  | .scope b, h => by simp only [codeM] at h; simp only [codeOk]; exact code_of_M b h
  | .goto _, h => by simp only [codeM, Bool.false_eq_true] at h
  | .rangeFunc .., h => by simp only [codeM, Bool.false_eq_true] at h
  | .refuse .., h => by simp only [codeM, Bool.false_eq_true] at h

def bodyM (fn : Func) (pt : Nat → List (Nat × Nat)) (mt : Nat → List Nat) : Bool := match fn.body with
  | some c => codeM fn.ntmps pt mt c
  | none => true

theorem body_of_M {fn : Func} {pt : Nat → List (Nat × Nat)} {mt : Nat → List Nat} (h : bodyM fn pt mt = true) : bodyOk fn pt = true := by
  unfold bodyM at h
  unfold bodyOk
  cases hb : fn.body with
  | none => rfl
  | some c => rw [hb] at h; exact code_of_M _ h

/-! ## Runs over known calls, at whatever depth -/
def noCall : CallF := fun _ _ _ _ => none
theorem noCall_sound {P : Program} : CallSound P noCall := fun _ _ _ _ _ h => by cases h

noncomputable def callN (base : CallF) (ft : Nat → Option Func) (pt : Nat → Nat → List (Nat × Nat)) (tab : Nat → TI) (LF n : Nat) : CallF :=
  Nat.rec (motive := fun _ => CallF) base (fun _ ih K args heap nx => Option.rec (motive := fun _ => Option Out) (runFQ ft pt tab LF ih K args heap nx) (fun o => some o) (base K args heap nx)) n

section
variable {P : Program} {tab : Nat → TI} (hT : TabOk P tab) (hm : P.follows .mixedOrders = true) {ft fr : Nat → Option Func} {pt : Nat → Nat → List (Nat × Nat)} (hft : FtOk P ft pt) {LF n : Nat} {l : List Ent}
include hT hm hft

theorem callN_sound {base : CallF} (hb : CallSound P base) : ∀ n, CallSound P (callN base ft pt tab LF n)
  | 0 => hb
  | n + 1 => fun K args heap nx out h => by
    have h : (Option.rec (motive := fun _ => Option Out) (runFQ ft pt tab LF (callN base ft pt tab LF n) K args heap nx) (fun o => some o) (base K args heap nx) : Option Out) = some out := h
    cases hbk : base K args heap nx with
    | none => rw [hbk] at h; exact runFQ_sound hT hm hft (callN_sound hb n) K args heap nx out h
    | some o => rw [hbk] at h; exact hb K args heap nx out (by rw [hbk]; exact h)

theorem callNK_sound (hl : EntsOk P l) : CallSound P (callN (callKQ l noCall) ft pt tab LF n) :=
  callN_sound hT hm hft (by rw [callKQ_eq]; exact callK_sound noCall_sound l hl) n

theorem entOk_of_runN {e : Ent} (hl : EntsOk P l) (h : runFQ ft pt tab LF (callN (callKQ l noCall) ft pt tab LF n) e.K e.args e.heap e.nx = some e.out) : EntOk P e :=
  runFQ_sound hT hm hft (callNK_sound hT hm hft hl) e.K e.args e.heap e.nx e.out h

theorem callP_knownN {K : Nat} (hl : EntsOk P l) (h : saysTrue (runFQ ft pt tab LF (callN (callKQ l noCall) ft pt tab LF n) K [] [] 0) = true) : CallP P K [] (.bool true) := by
  unfold saysTrue at h
  split at h
  · rename_i out ho
    obtain ⟨H, h1, h2, _, h4, _⟩ := runFQ_sound hT hm hft (callNK_sound hT hm hft hl) K [] [] 0 out ho
    split at h
    · rename_i hd
      rw [hd] at h1
      rw [h4] at h
      have : H = [] := by cases H with | nil => rfl | cons x l => cases h
      subst this
      exact callP_zero h1
    · cases h
  · cases h
end
end Go.Tm
end
section
/- Ranges over functions whose rounds run: the checks by masks; runs over known calls. -/


namespace Go.Tm
open Go.RowKit Go.WideShapes

theorem codeZ_mono {rgo rgo' : Nat → Array Oper → Bool → Bool} {rfo rfo' : Operand → Array Tmp → Code → Code → Bool} (hg : ∀ id ops draw, rgo' id ops draw = true → rgo id ops draw = true) (hf : ∀ g p a b, rfo' g p a b = true → rfo g p a b = true) : ∀ c : Code, codeZ rgo' rfo' c = true → codeZ rgo rfo c = true
  | .skip, _ => rfl
  | .region id ops draw, h => by simp only [codeZ] at h ⊢; exact hg _ _ _ h
  | .seq a b, h => by
    simp only [codeZ, Bool.and_eq_true] at h ⊢
    exact ⟨codeZ_mono hg hf a h.1, codeZ_mono hg hf b h.2⟩
  | .cond c a b, h => by
    simp only [codeZ, Bool.and_eq_true] at h ⊢
    exact ⟨⟨h.1.1, codeZ_mono hg hf a h.1.2⟩, codeZ_mono hg hf b h.2⟩
  | .block _ b, h => by simp only [codeZ] at h ⊢; exact codeZ_mono hg hf b h
  | .loop b, h => by simp only [codeZ] at h ⊢; exact codeZ_mono hg hf b h
  | .exit _, _ => rfl
  | .ret, _ => rfl
  | .label _, _ => rfl
  | .scope _, h => by simp only [codeZ, Bool.false_eq_true] at h
  | .goto _, h => by simp only [codeZ, Bool.false_eq_true] at h
  | .rangeFunc .., h => by simp only [codeZ] at h ⊢; exact hf _ _ _ _ h
  | .refuse .., h => by simp only [codeZ, Bool.false_eq_true] at h

def rgoM (K : List Nat) (n : Nat) (pt : Nat → List (Nat × Nat)) (mt : Nat → List Nat) : Nat → Array Oper → Bool → Bool := fun id ops draw => regM n ops draw (pt id) (mt id) && keepsK K ops
theorem rgoM_to {K : List Nat} {n : Nat} {pt : Nat → List (Nat × Nat)} {mt : Nat → List Nat} (id : Nat) (ops : Array Oper) (draw : Bool) (h : rgoM K n pt mt id ops draw = true) : rgoK K n pt id ops draw = true := by
  simp only [rgoM, Bool.and_eq_true] at h
  simp only [rgoK]
  rw [reg_of_M h.1, h.2]; rfl
def rfoM (n : Nat) (pt : Nat → List (Nat × Nat)) (mt : Nat → List Nat) : Operand → Array Tmp → Code → Code → Bool := fun gop _ assign body => operandOk gop && codeZ (rgoM [] n pt mt) rfoNone assign && codeZ (rgoM [] n pt mt) rfoNone body
theorem rfoM_to {n : Nat} {pt : Nat → List (Nat × Nat)} {mt : Nat → List Nat} (g : Operand) (p : Array Tmp) (a b : Code) (h : rfoM n pt mt g p a b = true) : rfoY n pt g p a b = true := by
  simp only [rfoM, Bool.and_eq_true] at h
  simp only [rfoY, Bool.and_eq_true]
  exact ⟨⟨h.1.1, codeZ_mono rgoM_to (fun _ _ _ _ h => h) _ h.1.2⟩, codeZ_mono rgoM_to (fun _ _ _ _ h => h) _ h.2⟩

def bodyMI (fn : Func) (pt : Nat → List (Nat × Nat)) (mt : Nat → List Nat) : Bool := match fn.body with
  | some c => codeZ (rgoM [] fn.ntmps pt mt) (rfoM fn.ntmps pt mt) c
  | none => true
def bodyMY (fn : Func) (pt : Nat → List (Nat × Nat)) (mt : Nat → List Nat) : Bool := match fn.body with
  | some c => codeZ (rgoM [0] fn.ntmps pt mt) rfoNone c
  | none => true

theorem body_of_MI {fn : Func} {pt : Nat → List (Nat × Nat)} {mt : Nat → List Nat} (h : bodyMI fn pt mt = true) : bodyOkI fn pt = true := by
  unfold bodyMI at h
  unfold bodyOkI
  cases hb : fn.body with
  | none => rfl
  | some c => rw [hb] at h; exact codeZ_mono rgoM_to rfoM_to _ h
theorem body_of_MY {fn : Func} {pt : Nat → List (Nat × Nat)} {mt : Nat → List Nat} (h : bodyMY fn pt mt = true) : bodyOkY fn pt = true := by
  unfold bodyMY at h
  unfold bodyOkY
  cases hb : fn.body with
  | none => rfl
  | some c => rw [hb] at h; exact codeZ_mono rgoM_to (fun _ _ _ _ h => h) _ h

theorem entOk_of_runNI {P : Program} {tab : Nat → TI} (hT : TabOk P tab) (hm : P.follows .mixedOrders = true) {ft fr fy : Nat → Option Func} {pt : Nat → Nat → List (Nat × Nat)} (hft : FtOk P ft pt) {LF n : Nat} {l : List Ent} (hfr : FtOkI P fr pt) (hfy : FtiOk P fy pt) {e : Ent} (hl : EntsOk P l)
    (h : runFI fr fy pt tab LF (callN (callKQ l noCall) ft pt tab LF n) e.K e.args e.heap e.nx = some e.out) : EntOk P e :=
  runFI_sound hT hm hfr hfy (callNK_sound hT hm hft hl) e.K e.args e.heap e.nx e.out h
end Go.Tm
end

/- Texts of the proof. -/
import Derived.Test.YtafdfmkjjhimaaaGreatDoorChecked
import Derived.WalkKit
import Derived.LaidEql
import Derived.Stop.Asserts
import Derived.RowKitTokens
import Derived.Test.YtafdfmkjjhimaaaGreatDoorGroupOnceCardPk
import Derived.Test.YtafdfmkjjhimaaaGreatDoorGroupOnceCardPj
import Derived.Test.YtafdfmkjjhimaaaGreatDoorGroupOnceCardPg
import Derived.Test.YtafdfmkjjhimaaaGreatDoorGroupOnceCardPa
import Derived.Test.YtafdfmkjjhimaaaGreatDoorGroupOnceCardPh
section
namespace Go.Tm
open Go.RowKit Go.WideShapes
def shf (N : Nat) : List (Nat × D) -> List (Nat × D)
 | [] => []
 | (t, d) :: r => (N + t, d) :: shf N r
def cmb (N : Nat) (a b : List (Nat × D)) : List (Nat × D) := a ++ shf N b
theorem zws (N t : Nat) : ∀ l : List (Nat × D), getL (shf N l) (N + t) = getL l t
 | [] => rfl
 | (u, d) :: r => by
  simp only [shf, getL, zws N t r]
  have : Nat.beq (N + u) (N + t) = Nat.beq u t := by
   cases h : Nat.beq u t
   cases h2 : Nat.beq (N + u) (N + t)
   rfl
   have := nb h2
   rw [show u = t by omega, Nat.beq_refl] at h; cases h
   rw [nb h, Nat.beq_refl]
  rw [this]
theorem zqk (N t : Nat) (h : t < N) : ∀ l : List (Nat × D), getL (shf N l) t = none
 | [] => rfl
 | (u, d) :: r => by
  simp only [shf, getL, zqk N t h r]
  have : Nat.beq (N + u) t = false := by
   cases h2 : Nat.beq (N + u) t
   rfl
   have := nb h2; omega
  rw [this]; rfl
theorem zt3 (t : Nat) (b : List (Nat × D)) : ∀ a : List (Nat × D), getL (a ++ b) t = match getL a t with | some d => some d | none => getL b t
 | [] => rfl
 | (u, d) :: r => by
  simp only [List.cons_append, getL, zt3 t b r]
  cases Nat.beq u t <;> rfl
theorem zt2 (N t : Nat) (h : N <= t) : ∀ a : List (Nat × D), (∀ p ∈ a, p.1 < N) -> getL a t = none
 | [], _ => rfl
 | (u, d) :: r, hN => by
  simp only [getL, zt2 N t h r fun p hp => hN p (List.mem_cons_of_mem _ hp)]
  have hu := hN (u, d) (List.mem_cons_self ..)
  have : Nat.beq u t = false := by
   cases h2 : Nat.beq u t
   rfl
   have := nb h2; simp only at hu; omega
  rw [this]; rfl
theorem zqh {N t : Nat} (h : t < N) (a b : List (Nat × D)) : getR (cmb N a b) t = getR a t := by
 unfold getR cmb
 rw [zt3, zqk N t h]
 cases getL a t <;> rfl
theorem zqi {N : Nat} (t : Nat) {a : List (Nat × D)} (hN : ∀ p ∈ a, p.1 < N) (b : List (Nat × D)) : getR (cmb N a b) (N + t) = getR b t := by
 unfold getR cmb
 rw [zt3, zt2 N (N + t) (by omega) a hN, zws]
section
variable {P : Program} {tab : Nat -> TI} {lim n : Nat} {Y : YC} {l : Nat} {Q : Exit -> St -> Option Code -> Prop}
theorem YAt.goes {E : En} {F : FrS} {a : Act} {w : World} {g : Gh} {st s : St} {n0 N : Nat} {p : Option Code} (hN : ∀ p ∈ Y.vars, p.1 < N) (h : Goes lim n0 ⟨cmb N Y.vars st.vars, st.heap, st.nx⟩ ⟨cmb N Y.vars s.vars, s.heap, s.nx⟩)
  (hE : ∀ id, n0 <= id -> id < lim -> E.nu0 id = true) (hF : F.on lim st) (hR : Rel E n F (zfb a) w g) (hJ : YAt Y l E p F a w g) : ∃ F' g', F'.on lim s /\ Rel E n F' (zfb a) w g' /\ YAt Y l E p F' a w g' := by
 obtain ⟨h1, h2, h3, rc, h4, h5⟩ := hJ
 obtain ⟨tm, htm⟩ : ∃ tm : Array Value, tm = Array.ofFn (n := N + a.tmps.size) fun i => if i.1 < N then rc.tmps.getD i.1 undef else a.tmps.getD (i.1 - N) undef := ⟨_, rfl⟩
 have g1 : ∀ t, t < N -> tm.getD t undef = rc.tmps.getD t undef := fun t ht => by
  rw [htm, Array.getD_eq_getD_getElem?, Array.getElem?_ofFn]
  rw [dif_pos (by omega), if_pos ht]; rfl
 have g2 : ∀ t, tm.getD (N + t) undef = a.tmps.getD t undef := fun t => by
  rw [htm, Array.getD_eq_getD_getElem?, Array.getElem?_ofFn]
  by_cases ht : t < a.tmps.size
  rw [dif_pos (by omega)]
  simp only [Nat.not_lt.2 (Nat.le_add_right N t), if_false, Nat.add_sub_cancel_left, Option.getD_some]
  rw [dif_neg (by omega), Array.getD_eq_getD_getElem?, Array.getElem?_eq_none (by omega)]
 have hR0 : Rel E 0 ⟨getR (cmb N Y.vars st.vars), F.hp, F.nu⟩ { tmps := tm, defers := [] } w g := by
  refine ⟨Nat.zero_le _, rfl, fun t => ?_, hR.mem, hR.base, hR.keep, hR.gz, hR.gs, hR.nu⟩
  show rep (cx w g F.hp) (getR (cmb N Y.vars st.vars) t) (tm.getD t undef)
  by_cases ht : t < N
  rw [zqh ht, g1 t ht]; exact h5.rd t
  obtain ⟨u, rfl⟩ : ∃ u, t = N + u := ⟨t - N, by omega⟩
  rw [zqi u hN, g2 u, <- hF.1]; exact hR.rd u
 obtain ⟨F', g', k1, k2⟩ := h E 0 ⟨getR (cmb N Y.vars st.vars), F.hp, F.nu⟩ { tmps := tm, defers := [] } w g hE ⟨rfl, hF.2.1, hF.2.2⟩ hR0
 have rd := fun t => k1.1 ▸ k2.rd t
 refine ⟨⟨getR s.vars, F'.hp, F'.nu⟩, g', ⟨rfl, k1.2.1, k1.2.2⟩, ⟨hR.sz, hR.df, fun t => ?_, k2.mem, k2.base, k2.keep, k2.gz, k2.gs, k2.nu⟩, h1, h2, h3, rc, h4, ⟨h5.st, h5.pe, h5.ps, h5.asg, h5.bd, h5.sz, fun t => ?_⟩⟩
 have k := rd (N + t)
 have k : rep (cx w g' F'.hp) (getR (cmb N Y.vars s.vars) (N + t)) (tm.getD (N + t) undef) := k
 rw [zqi t hN, g2 t] at k
 exact k
 by_cases ht : t < N
 have k := rd t
 have k : rep (cx w g' F'.hp) (getR (cmb N Y.vars s.vars) t) (tm.getD t undef) := k
 rw [zqh ht, g1 t ht] at k
 exact k
 have : getR Y.vars t = .undef := by
  unfold getR; rw [zt2 N t (by omega) _ hN]
 show rep _ (getR Y.vars t) _
 rw [this]; simp only [rep]
def YAtE (Y : YC) (l lim n0 : Nat) (E : En) (p : Option Code) (F : FrS) (a : Act) (w : World) (g : Gh) : Prop := (∀ id, n0 <= id -> id < lim -> E.nu0 id = true) /\ YAt Y l E p F a w g
theorem OkG.toE {c : Code} {st : St} {p : Option Code} (n0 : Nat) (h : OkG P lim n none (YAt Y l) c st p Q) : OkG P lim n none (YAtE Y l lim n0) c st p Q :=
 fun E F a w g hF hR hJ => wpIn_mono (h E F a w g hF hR hJ.2) fun _ _ _ ⟨st', s', F', g', q, k1, k2, k3⟩ => ⟨st', s', F', g', q, k1, k2, hJ.1, k3⟩
theorem OkG.ofE {c : Code} {st : St} {p : Option Code} {n0 : Nat} (hn : st.nx <= n0) (h : OkG P lim n none (YAtE Y l lim n0) c st p Q) : OkG P lim n none (YAt Y l) c st p Q :=
 fun E F a w g hF hR hJ => wpIn_mono (h E F a w g hF hR ⟨fun id k1 k2 => hR.nu id (hF.2.2 id (Nat.le_trans hn k1) k2), hJ⟩) fun _ _ _ ⟨st', s', F', g', q, k1, k2, k3⟩ => ⟨st', s', F', g', q, k1, k2, k3.2⟩
def ya5s (Y : YC) (lim n0 N : Nat) (st s : St) : Prop := Goes lim n0 ⟨cmb N Y.vars st.vars, st.heap, st.nx⟩ ⟨cmb N Y.vars s.vars, s.heap, s.nx⟩
def ya54 {ι : Type} (Y : YC) (lim n0 N : Nat) (S : ι -> St) (Pr : ι -> Prop) (μ : ι -> Nat) (i : ι) (Q : Exit -> St -> Option Code -> Prop) : Exit -> St -> Option Code -> Prop := fun e s q => match e with | .normal => q = none /\ ∃ j, ya5s Y lim n0 N s (S j) /\ Pr j /\ μ j < μ i | e => Q e s q
theorem OkG.loopYG {c : Code} {st : St} {ι : Type} (n0 N : Nat) (S : ι -> St) (Pr : ι -> Prop) (μ : ι -> Nat) (i0 : ι) (hn : st.nx <= n0) (hN : ∀ p ∈ Y.vars, p.1 < N) (hs : ya5s Y lim n0 N st (S i0)) (h0 : Pr i0)
  (round : ∀ i, Pr i -> OkG P lim n none (YAt Y l) c (S i) none (ya54 Y lim n0 N S Pr μ i Q)) : OkG P lim n none (YAt Y l) (.loop c) st none Q := by
 have key : ∀ m i, μ i = m -> Pr i -> OkGL P lim n none (YAtE Y l lim n0) c (S i) none Q := by
  intro m
  induction m using Nat.strongRecOn with
  | _ m ih =>
   intro i hm hI
   refine OkGL.round (OkG.mono (OkG.toE n0 (round i hI)) fun e s q hq => ?_)
   cases e with
   | normal =>
    obtain ⟨rfl, j, h1, h2, h3⟩ := hq
    have k := ih (μ j) (hm ▸ h3) j rfl h2
    intro E F a w g hF hR hJ
    obtain ⟨F', g', hF', hR', hJ'⟩ := YAt.goes hN h1 hJ.1 hF hR hJ.2
    exact k E F' a w g' hF' hR' ⟨hJ.1, hJ'⟩
   | _ => exact hq
 refine OkG.ofE hn ?_
 intro E F a w g hF hR hJ
 obtain ⟨F', g', hF', hR', hJ'⟩ := YAt.goes hN hs hJ.1 hF hR hJ.2
 exact OkGL.to (key _ i0 rfl h0) E F' a w g' hF' hR' ⟨hJ.1, hJ'⟩
end
section
variable {P : Program} {tab : Nat -> TI} {lim n : Nat} {r : Option Nat} {B : List (Nat × Obj)} {st : St} {Q : Exit -> St -> Prop}
def JE {S : Type} (J : En -> S -> FrS -> Act -> World -> Gh -> Prop) (lim n0 : Nat) (E : En) (s : S) (F : FrS) (a : Act) (w : World) (g : Gh) : Prop := (∀ id, n0 <= id -> id < lim -> E.nu0 id = true) /\ J E s F a w g
theorem OkG.toJ {S : Type} {J : En -> S -> FrS -> Act -> World -> Gh -> Prop} {c : Code} {s : S} {Q : Exit -> St -> S -> Prop} (n0 : Nat) (h : OkG P lim n r J c st s Q) : OkG P lim n r (JE J lim n0) c st s Q :=
 fun E F a w g hF hR hJ => wpIn_mono (h E F a w g hF hR hJ.2) fun _ _ _ ⟨st', s', F', g', q, k1, k2, k3⟩ => ⟨st', s', F', g', q, k1, k2, hJ.1, k3⟩
theorem OkG.ofJ {S : Type} {J : En -> S -> FrS -> Act -> World -> Gh -> Prop} {c : Code} {s : S} {Q : Exit -> St -> S -> Prop} {n0 : Nat} (hn : st.nx <= n0) (h : OkG P lim n r (JE J lim n0) c st s Q) : OkG P lim n r J c st s Q :=
 fun E F a w g hF hR hJ => wpIn_mono (h E F a w g hF hR ⟨fun id k1 k2 => hR.nu id (hF.2.2 id (Nat.le_trans hn k1) k2), hJ⟩) fun _ _ _ ⟨st', s', F', g', q, k1, k2, k3⟩ => ⟨st', s', F', g', q, k1, k2, k3.2⟩
def ya55 {ι : Type} (lim n0 : Nat) (S : ι -> St) (Pr : ι -> Prop) (μ : ι -> Nat) (i : ι) (Q : Exit -> St -> Prop) : Exit -> St -> Prop := fun e st' => match e with | .normal => ∃ j, Goes lim n0 st' (S j) /\ Pr j /\ μ j < μ i | e => Q e st'
theorem OkB.loopN {c : Code} {ι : Type} (n0 : Nat) (S : ι -> St) (Pr : ι -> Prop) (μ : ι -> Nat) (i0 : ι) (hn : st.nx <= n0) (hs : Goes lim n0 st (S i0)) (h0 : Pr i0) (round : ∀ i, Pr i -> OkB P lim n r B c (S i) (ya55 lim n0 S Pr μ i Q)) : OkB P lim n r B (.loop c) st Q := by
 have go : ∀ {E : En} {F : FrS} {a : Act} {w : World} {g : Gh} {st s : St}, Goes lim n0 st s -> (∀ id, n0 <= id -> id < lim -> E.nu0 id = true) -> F.on lim st -> Rel E n F (zfb a) w g -> ∃ F' g', F'.on lim s /\ Rel E n F' (zfb a) w g' := fun h hE hF hR => h _ _ _ _ _ _ hE hF hR
 have key : ∀ m i, μ i = m -> Pr i -> OkGL P lim n r (JE (JM B) lim n0) c (S i) () fun e s _ => Q e s := by
  intro m
  induction m using Nat.strongRecOn with
  | _ m ih =>
   intro i hm hI
   refine OkGL.round (OkG.mono (OkG.toJ n0 (round i hI)) fun e s _ hq => ?_)
   cases e with
   | normal =>
    obtain ⟨j, h1, h2, h3⟩ := hq
    have k := ih (μ j) (hm ▸ h3) j rfl h2
    intro E F a w g hF hR hJ
    obtain ⟨F', g', hF', hR'⟩ := go h1 hJ.1 hF hR
    exact k E F' a w g' hF' hR' hJ
   | _ => exact hq
 refine OkG.ofJ hn ?_
 intro E F a w g hF hR hJ
 obtain ⟨F', g', hF', hR'⟩ := go hs hJ.1 hF hR
 exact OkGL.to (key _ i0 rfl h0) E F' a w g' hF' hR' hJ
end
theorem nc0 : zmm [] := by intro x hx; cases hx
section
variable {P : Program} {tab : Nat -> TI} {lim n : Nat} {st : St} {Y : YC} {l : Nat} {p : Option Code} {Q : Exit -> St -> Option Code -> Prop}
theorem OkG.pY {id : Nat} {ops : Array Oper} {st' : St} {vc : Bool} {acc : List FP} (S : Seat P tab) (hQ : Q .normal st' p) (hK : zm4 [Y.k] ops = true := by decide +kernel) (hok : zit n ops false = true := by decide +kernel)
  (h : zjc (runE tab true false ops.toList ops.toList st true []) st' vc acc [] := by intro q hq; simp only [go_sem, Nat.reduceSub, Int.reduceEq, Nat.reduceLT, Nat.reduceDiv, Nat.reduceAdd, Nat.reduceBEq, Nat.reduceLeDiff, reduceCtorEq, Nat.reduceEqDiff, Nat.reduceMod, Nat.reduceMul, zaj]; exact hq)
  (hv : vc = true := by first | rfl | (simp only [go_sem, Nat.reduceLeDiff]; done) | (simp only [go_sem, Nat.reduceLeDiff]; rfl) | (simp; done)) (hlim : st'.nx <= lim := by first | exact Nat.le_refl _ | exact lb rfl) : OkG P lim n none (YAt Y l) (.region id ops false) st p Q :=
 OkG.plY S hK hok h hv hlim hQ
theorem OkG.pYx {X : Prop} {id : Nat} {ops : Array Oper} {st' : St} {vc : Bool} {acc : List FP} (S : Seat P tab) (x : X) (hQ : Q .normal st' p) (hK : zm4 [Y.k] ops = true := by decide +kernel) (hok : zit n ops false = true := by decide +kernel)
  (h : X -> zjc (runE tab true false ops.toList ops.toList st true []) st' vc acc [] := by intro x q hq; simp only [go_sem, Nat.reduceSub, Int.reduceEq, Nat.reduceLT, Nat.reduceDiv, Nat.reduceAdd, Nat.reduceBEq, Nat.reduceLeDiff, reduceCtorEq, Nat.reduceEqDiff, Nat.reduceMod, Nat.reduceMul, zaj, x]; exact hq)
  (hv : vc = true := by first | rfl | (simp only [go_sem, Nat.reduceLeDiff]; done) | (simp only [go_sem, Nat.reduceLeDiff]; rfl) | (simp; done)) (hlim : st'.nx <= lim := by first | exact Nat.le_refl _ | exact lb rfl) : OkG P lim n none (YAt Y l) (.region id ops false) st p Q :=
 OkG.plY S hK hok (h x) hv hlim hQ
end
def zwf (ks ys : List Nat) (o : Oper) : Bool := o.guard.isNone && (zqe ks o).isNone && !zlr ks o && !zi0 o && decide (zqa ys o.dst = ys)
theorem ya02 (call : FuncId -> List D -> List (Nat × Blk) -> Nat -> Option Out) (tab : Nat -> TI) (o : Oper) (st : St) (h : zi0 o = false) : zy4 call tab o st = aopX tab o st := by
 unfold zy4
 cases ho : o.op with
 | call c =>
  cases hc : c.callee with
  | value f => simp [zi0, ho, hc] at h
  | _ => simp only [hc]
 | _ => rfl
theorem ya3z (tab : Nat -> TI) (o : Oper) (st : St) : aopX tab o st = match aop tab true o.op st.nx true (getR st.vars) (getL st.heap) with
 | some out => bif out.vc && nwB st.nx out.nw then some out else none
 | none => none := by
 unfold aopX; rw [ya0c]
 cases aop tab true o.op st.nx true (getR st.vars) (getL st.heap) <;> rfl
theorem zyx {yb : YbF} {tab : Nat -> TI} {k : Nat} {O : List Oper} {ys : List Nat} {p : Option Code} : ∀ (m : Nat) (l l' : List Oper) (st st' : St) (v0 vc : Bool) (acc acc' : List FP) (ws : List Nat), runK tab true false O m l st v0 acc = some (st', vc, acc', l') -> vc = true -> (l.take m).all (zwf (k :: ys) ys) = true ->
  v0 = true /\ ∃ ws', runY yb noCall tab 0 k O l ys st ws p = runY yb noCall tab 0 k O l' ys st' ws' p
 | 0, l, l', st, st', v0, vc, acc, acc', ws, h, hv, _ => by
  simp only [runK, Option.some.injEq, Prod.mk.injEq] at h
  obtain ⟨rfl, rfl, rfl, rfl⟩ := h
  exact ⟨hv, ws, rfl⟩
 | m + 1, [], l', st, st', v0, vc, acc, acc', ws, h, hv, _ => by
  simp only [runK, Option.some.injEq, Prod.mk.injEq] at h
  obtain ⟨rfl, rfl, rfl, rfl⟩ := h
  exact ⟨hv, ws, rfl⟩
 | m + 1, o :: l, l', st, st', v0, vc, acc, acc', ws, h, hv, ha => by
  simp only [List.take_succ_cons, List.all_cons, Bool.and_eq_true] at ha
  obtain ⟨ha1, ha2⟩ := ha
  simp only [zwf, Bool.and_eq_true, Bool.not_eq_true', decide_eq_true_eq, Option.isNone_iff_eq_none] at ha1
  obtain ⟨⟨⟨⟨g1, g2⟩, g3⟩, g4⟩, g5⟩ := ha1
  simp only [runK, g4, cond_false] at h
  split at h
  ·rename_i out v hs
   obtain ⟨hvv, ws', hq⟩ := zyx m _ _ _ _ _ _ _ _ (addW 0 ws out.eff) h hv ha2
   simp only [Bool.and_eq_true] at hvv
   refine ⟨hvv.1, ws', ?_⟩
   rw [<- hq]
   have hst : zxk noCall tab O o st = some out := by
    unfold zxk
    rw [g1]
    simp only
    rw [ya02 _ _ _ _ g4, ya3z]
    unfold zrr at hs
    rw [g1] at hs
    simp only at hs
    cases hA : aop tab true o.op st.nx true (getR st.vars) (getL st.heap) with
    | none => rw [hA] at hs; cases hs
    | some out2 =>
     rw [hA] at hs
     simp only [Option.some.injEq, Prod.mk.injEq] at hs
     obtain ⟨rfl, hv2⟩ := hs
     have h3 : (out2.vc && nwB st.nx out2.nw) = true := hv2.trans hvv.2
     simp only [h3, cond_true]
   conv => lhs; unfold runY
   rw [g2]
   simp only [g3, cond_false, hst, g5]
  cases h
section
variable {P : Program} {tab : Nat -> TI} {lim n : Nat} {st : St} {Y : YC} {l : Nat} {Q : Exit -> St -> Option Code -> Prop}
theorem OkG.ryB {X : Prop} {id : Nat} {ops : Array Oper} {o0 oy : Oper} {l0 l1 : List Oper} {d0 : Nat} {ds : List D} {heap' : List (Nat × Blk)} {nx' : Nat} {e : Ex} {st1 st2 : St} {vc1 vc2 : Bool} {acc1 acc2 : List FP} (S : Seat P tab) (x : X) (m1 m2 : Nat)
  (hO : ∀ lim, nx' <= lim -> ztj P lim Y ds st1.heap st1.nx e heap' nx') (hQ : Q .normal st2 e.pend) (hok : zit n ops false = true := by decide +kernel) (hK : zm4 [Y.k] ops = true := by decide +kernel)
  (h0 : ops.toList = o0 :: l0 := by rfl) (hm : zqe [Y.k] o0 = some d0 := by rfl)
  (h1 : X -> zjc (runK tab true false ops.toList m1 l0 (st.putD (some d0) .undef) true []) st1 vc1 acc1 (oy :: l1) := by intro x q hq; simp only [go_sem, Nat.reduceSub, Int.reduceEq, Nat.reduceLT, Nat.reduceDiv, Nat.reduceAdd, Nat.reduceBEq, Nat.reduceLeDiff, reduceCtorEq, Nat.reduceEqDiff, Nat.reduceMod, Nat.reduceMul, zaj, St.putD, Ex.isN, x]; exact hq) (hv1 : vc1 = true := by first | rfl | (simp only [go_sem, Nat.reduceLeDiff]; done) | (simp only [go_sem, Nat.reduceLeDiff]; rfl) | (simp; done) | (simp_all; done) | (simp <;> omega))
  (hn : st1.nx <= nx' := by exact lb rfl)
  (hp1 : (l0.take m1).all (zwf [Y.k, d0] [d0]) = true := by decide +kernel) (hy : zlr [Y.k, d0] oy = true := by rfl) (hym : zqe [Y.k, d0] oy = none := by rfl) (hg : oy.guard = none := by rfl)
  (ho : X -> opds true (getR st1.vars) (zxf oy) = (ds, true) := by intro x; first | rfl | (simp only [zxf, go_sem, Nat.reduceBEq, x]; done) | (simp only [zxf, go_sem, Nat.reduceBEq, x]; rfl))
  (h2 : X -> zjc (runK tab true false ops.toList m2 l1 ((⟨st1.vars, heap', nx'⟩ : St).putD oy.dst (.bool e.isN)) true []) st2 vc2 acc2 [] := by intro x q hq; simp only [go_sem, Nat.reduceSub, Int.reduceEq, Nat.reduceLT, Nat.reduceDiv, Nat.reduceAdd, Nat.reduceBEq, Nat.reduceLeDiff, reduceCtorEq, Nat.reduceEqDiff, Nat.reduceMod, Nat.reduceMul, zaj, St.putD, Ex.isN, x]; exact hq) (hv2 : vc2 = true := by first | rfl | (simp only [go_sem, Nat.reduceLeDiff]; done) | (simp only [go_sem, Nat.reduceLeDiff]; rfl) | (simp; done) | (simp_all; done) | (simp <;> omega))
  (hp2 : (l1.take m2).all (zwf (Y.k :: zqa [d0] oy.dst) (zqa [d0] oy.dst)) = true := by decide +kernel) (hlim : st2.nx <= lim := by exact lb rfl) : OkG P lim n none (YAt Y l) (.region id ops false) st none Q := by
 obtain ⟨_, ws1, e1⟩ := zyx (yb := yb1 ds st1.heap st1.nx e heap' nx') (tab := tab) (k := Y.k) (O := ops.toList) (ys := [d0]) (p := none) m1 l0 _ _ _ _ _ _ _ [] (h1 x).eq hv1 hp1
 obtain ⟨_, ws2, e2⟩ := zyx (yb := yb1 ds st1.heap st1.nx e heap' nx') (tab := tab) (k := Y.k) (O := ops.toList) (ys := zqa [d0] oy.dst) (p := e.pend) m2 l1 _ _ _ _ _ _ _ ws1 (h2 x).eq hv2 hp2
 have key : runY (yb1 ds st1.heap st1.nx e heap' nx') noCall tab 0 Y.k ops.toList ops.toList [] st [] none = some (st2, ws2, e.pend) := by
  conv => lhs; arg 7; rw [h0]
  conv => lhs; unfold runY
  rw [hm]
  simp only
  rw [e1]
  conv => lhs; unfold runY
  rw [hym]
  simp only [hy, cond_true]
  unfold zyj
  rw [hg]
  simp only
  unfold zqy
  rw [ho x]
  simp only
  rw [ya43]
  simp only
  rw [e2]
  rfl
 obtain ⟨_, _, h3⟩ := zyy (pt := fun _ => []) zty S.tm S.mixed (zyk hn hO) l id ops false st [] none st2 ws2 e.pend (by simp only [rgoK, Bool.and_eq_true, Bool.not_false, Bool.true_or]; exact ⟨⟨hok, trivial⟩, hK⟩) key
 refine (h3 lim hlim).mono ?_
 rintro e t q ⟨rfl, rfl, rfl⟩
 exact hQ
end
theorem OkB.drop {P : Program} {lim n : Nat} {r : Option Nat} {B : List (Nat × Obj)} {c : Code} {st : St} {e0 : Exit} {H : List (Nat × Blk)} {N : Nat} (h : OkB P lim n r B c st fun e s => e = e0 /\ s.heap = H /\ s.nx = N) : OkG P lim n r (JM B) c st () fun e s _ => e = e0 /\ s = ⟨[], H, N⟩ :=
 fun E F a w g hF hR hJ => wpIn_mono (h E F a w g hF hR hJ) fun e a' w' ⟨st', s', F', g', q, k1, k2, k3⟩ => by
  obtain ⟨rfl, rfl, rfl⟩ := q
  obtain ⟨F2, hF2, hR2⟩ := k2.sub k1 (st' := ⟨zb0 [] st'.vars, st'.heap, st'.nx⟩) ⟨fun t d h => zbi [] _ t d h, fun _ _ h => h, Nat.le_refl _⟩
  exact ⟨_, s', F2, g', ⟨rfl, rfl⟩, hF2, hR2, k3⟩
end Go.Tm
end
section
namespace Go.Proofs
open Go.Tm Go.RowKit Go.WideShapes
set_option maxRecDepth 100000
set_option maxHeartbeats 4000000
set_option linter.unusedSimpArgs false
set_option linter.unusedVariables false
attribute [local go_sem] Tryz.f179 Tryz.f195 Tryz.f209 ya19
theorem zgw (a0 : List TEntry) : zbo Tryz.prog 195 [.imm 4 (a0.map TEntry.d) 4] [] (.fn (.func 209) [.ptr 0 0]) [(0, some (.box [.imm 4 (a0.map TEntry.d) 4]))] (0, 3) := by
 refine zab Tryz.tmOk Tryz.func195 rfl (by decide) (lb rfl) (by simp) ?_
 intro hwf
 refine .ends 0 (Nat.le_refl _) ?_
 refine .seq (.pl zS [0] ?_)
 refine .seq (.pl zS [1] ?_)
 refine .ret ⟨⟨[(2, .fn (.func 209) [.ptr 0 0])], [(0, .box [.imm 4 (a0.map TEntry.d) 4])], 1⟩, ?_, .inr rfl, retH [0] ?_ ?_⟩
 exact .m [2] [0] []
 exact rsi0
 rfl
def Tryz.CmH (v2 : TTopic) (mk : Int) (w : List (List UInt8 × Int)) : List (Nat × Blk) := [(0, .box [.int .i64 v2.Base, .int .i64 v2.Next, .int .i64 mk, .imm 4 (v2.Entries.map TEntry.d) 13]), (1, .box [.int .i64 0, .int .i64 0, .int .i64 0, .imm 0 [] 0]), (2, .map (mapD D.str (D.int .i64) w)), (3, .box [.mref 2])]
def st35 (v2 : TTopic) (mk : Int) (i : Nat) (w : List (List UInt8 × Int)) : St := ⟨[(2, .ptr 0 0), (4, .ptr 1 0), (7, .ptr 3 0), (38, .imm 4 (v2.Entries.map TEntry.d) 13), (39, .int .i64 (v2.Entries.length : Int)), (40, .int .i64 (i : Int))], Tryz.CmH v2 mk w, 4⟩
def Tryz.CmI (v2 : TTopic) (mk : Int) (w : List (List UInt8 × Int)) (left : List TEntry) : List (Nat × Blk) := [(0, .box [.int .i64 v2.Base, .int .i64 v2.Next, .int .i64 mk, .imm 4 (v2.Entries.map TEntry.d) 13]), (1, .box [.int .i64 0, .int .i64 0, .int .i64 0, .imm 0 [] 0]), (2, .map (mapD D.str (D.int .i64) w)), (3, .box [.mref 2]), (4, .box [.ref 8 4 0 left.length (some uC)]), (5, .box [.imm 4 (v2.Entries.map TEntry.d) 4]), (8, .arr 96 4 true (left.map TEntry.d))]
def Tryz.CmS (v2 : TTopic) (mk : Int) (k : Nat) (w : List (List UInt8 × Int)) (left : List TEntry) : St := ⟨[(1, .ptr 5 0), (3, .int .i64 ((k : Int) - 1))], Tryz.CmI v2 mk w left, 9⟩
attribute [local go_sem] Tryz.CmH st35 Tryz.CmI Tryz.CmS
theorem zw8 : ∀ (n : Nat) (l : List TEntry) (i j : Int) {r : List TEntry}, zad n l i j = some r -> r.length = l.length
 | 0, l, i, j, r, h => by rw [zad] at h; cases h
 | n + 1, l, i, j, r, h => by
  rw [zad] at h
  split at h
  obtain ⟨k1, h⟩ := zaz h
  obtain ⟨k2, h⟩ := zaz h
  obtain ⟨k3, h⟩ := zaz h
  rw [zw8 n _ _ _ h]; simp
  rw [<- sj h]
theorem ya2n {l r : List TEntry} (h : zbg l = some r) : r.length = l.length := zw8 _ _ _ _ h
theorem ya0m {a v : TTopic} (h : zby a = some v) : v.Entries.length * 48 <= 140737488355328 := by
 unfold zby at h
 obtain ⟨l, hl, h⟩ := bind_some h
 rw [<- sj h]
 unfold zau at hl
 obtain ⟨k, hl⟩ := zaz hl
 rw [<- sj hl]; exact k
theorem zle (a0 : TTopic) (a1 : Int) (r : TTopic × Int) (h : zes a0 a1 = some r) : zaq Tryz.prog 179 [.agg [.int .i64 a0.Base, .int .i64 a0.Next, .int .i64 a0.Mark, .imm 4 (a0.Entries.map TEntry.d) 4], .int .i64 a1] (.tuple [.agg [.int .i64 r.1.Base, .int .i64 r.1.Next, .int .i64 r.1.Mark, .imm 4 (r.1.Entries.map TEntry.d) 13], .int .i64 r.2]) := by
 refine zul Tryz.tmOk 20110 Tryz.func179 rfl (by decide) rfl rfl (lb rfl) ?_
 intro hwf
 unfold zes at h
 refine OkB.seq ?_
 refine OkB.rg zS [0, 1] nc0 ?_
 refine .rn 3 ?_
 refine .nn ?_
 refine OkB.seq ?_
 refine OkB.seq ?_
 obtain ⟨v1, hv1, h⟩ := bind_some h
 refine OkB.rg zS [1, 2, 4] nc0 ?_
 refine .rn 1 ?_
 refine .cl (zfz a0 v1 hv1) ?_
 refine .rn 1 ?_
 refine .nn ?_
 refine OkB.seq ?_
 refine OkB.rg zS [1, 2, 4, 6] nc0 ?_
 refine .rn 2 ?_
 refine .nn ?_
 refine OkB.cond rfl rfl (fun hc1 => ?_) (fun hc1 => ?_)
 replace h := za4 h hc1
 refine OkB.seq ?_
 refine OkB.rg zS [4, 6] nc0 ?_
 refine .rn 4 ?_
 refine .nn ?_
 obtain rfl := sj h
 refine OkB.goes (.boxs 1 _ [.int .i64 0, .int .i64 0, .int .i64 0, .imm 4 [] 13] rfl (.keep (.keep (.keep (.cons (.nil12 _ _ 0 (by decide)) (.refl _))))) .refl) ?_
 exact OkB.ret ⟨.inr rfl, rsi⟩
 replace h := za9 h hc1
 refine OkB.skip ?_
 refine OkB.seq ?_
 refine OkB.seq ?_
 refine OkB.rg zS [1, 2, 4] nc0 ?_
 refine .rn 6 ?_
 refine .nn ?_
 refine OkB.cond rfl rfl (fun hc2 => ?_) (fun hc2 => ?_)
 replace h := za4 h hc2
 refine OkB.seq ?_
 refine OkB.rg zS [4] nc0 ?_
 refine .rn 3 ?_
 refine .nn ?_
 obtain rfl := sj h
 refine OkB.goes (.boxs 1 _ [.int .i64 0, .int .i64 0, .int .i64 0, .imm 4 [] 13] rfl (.keep (.keep (.keep (.cons (.nil12 _ _ 0 (by decide)) (.refl _))))) .refl) ?_
 exact OkB.ret ⟨.inr rfl, rsi⟩
 replace h := za9 h hc2
 refine OkB.skip ?_
 obtain ⟨v2, hv2, h⟩ := bind_some h
 obtain ⟨z, hz, h⟩ := bind_some h
 refine OkB.seq ?_
 refine OkB.rg zS [1, 2, 4] nc0 ?_
 refine .rn 1 ?_
 refine .cl (zi1 a0 v2 hv2) ?_
 refine .rn 1 ?_
 refine .nn ?_
 refine OkB.seq ?_
 refine OkB.rg zS [1, 2, 4] nc0 ?_
 refine .rn 6 ?_
 refine .rn 3 ?_
 refine .nn ?_
 obtain ⟨mk, hmk⟩ : ∃ mk, mk = max v2.Mark (min a1 v2.Next) := ⟨_, rfl⟩
 rw [<- hmk] at hz h ⊢
 refine OkB.seq ?_
 refine OkB.rg zS [2, 4] nc0 ?_
 refine .rn 3 ?_
 refine .nn ?_
 refine OkB.seq ?_
 refine OkB.seq ?_
 refine OkB.rg zS [2, 4, 7] nc0 ?_
 refine .rn 4 ?_
 refine .nn ?_
 refine OkB.block ?_
 have hlen : (v2.Entries.length : Int) <= 9223372036854775807 := by
  have := ya0m hv2
  omega
 refine OkB.loopN 4 (fun (j : Nat × List (List UInt8 × Int)) => st35 v2 mk j.1 j.2) (fun j => j.1 <= v2.Entries.length /\ zo3 mk (v2.Entries.drop j.1) j.2 = zo3 mk v2.Entries []) (fun j => v2.Entries.length - j.1) (0, []) (lb rfl) ?_ ⟨Nat.zero_le _, rfl⟩ ?_
 exact .m [2, 4, 7, 38, 39, 40] [0, 1, 2, 3] []
 rintro ⟨i, w⟩ ⟨hi, hw⟩
 simp only at hi hw
 simp only [st35, Tryz.CmH]
 refine OkB.seq ?_
 refine OkB.rg zS [2, 4, 7, 38, 39, 40] nc0 ?_
 refine .rn 1 ?_
 refine .nn ?_
 refine OkB.seq ?_
 refine OkB.cond rfl rfl (fun hc3 => ?_) (fun hc3 => ?_)
 have h1 : i < v2.Entries.length := by simpa using hc3
 have hwi : wr .i64 ((i : Int) + 1) = ((i + 1 : Nat) : Int) := zdg h1 hlen
 have e1 := zd0 TEntry.d v2.Entries i h1
 rw [List.drop_eq_getElem_cons h1, zo3] at hw
 refine OkB.skip ?_
 refine OkB.seq ?_
 refine OkB.block ?_
 refine OkB.seq ?_
 refine OkB.rg zS [2, 4, 7, 38, 39, 40] nc0 ?_
 refine .rnx 4 (ai e1 hwi) ?_
 refine .nn ?_
 refine OkB.seq ?_
 refine OkB.rg zS [2, 4, 7, 9, 38, 39, 40] nc0 ?_
 refine .rn 5 ?_
 refine .nn ?_
 refine OkB.cond rfl rfl (fun hc4 => ?_) (fun hc4 => ?_)
 have hm : (v2.Entries[i]).Offset < mk := by simpa using hc4
 rw [if_pos hm] at hw
 have em1 : updD (.str (v2.Entries[i]).Key) (.int .i64 1) (mapD D.str (D.int .i64) w) = some (mapD D.str (D.int .i64) (mput (v2.Entries[i]).Key 1 w)) := zw1 _ _ _ _ rfl _
 refine OkB.rg zS [2, 4, 7, 9, 38, 39, 40] nc0 ?_
 refine .rnx 4 em1 ?_
 refine .nn ?_
 refine OkB.rg zS [2, 4, 7, 38, 39, 40] nc0 ?_
 refine .rnx 2 hwi ?_
 refine .nn ?_
 refine ⟨(i + 1, _), ?_, ⟨by omega, hw⟩, by dsimp only; omega⟩
 exact .mp [2, 4, 7, 38, 39, 40] [0, 1, 2, 3] [] ⟨zdn (fun _ => rfl) (fun _ => rfl) _, trivial⟩
 have hm : ¬ (v2.Entries[i]).Offset < mk := by simpa using hc4
 rw [if_neg hm] at hw
 refine OkB.skip ?_
 refine OkB.rg zS [2, 4, 7, 38, 39, 40] nc0 ?_
 refine .rnx 2 hwi ?_
 refine .nn ?_
 refine ⟨(i + 1, _), ?_, ⟨by omega, hw⟩, by dsimp only; omega⟩
 exact .mp [2, 4, 7, 38, 39, 40] [0, 1, 2, 3] [] ⟨zdn (fun _ => rfl) (fun _ => rfl) _, trivial⟩
 have h2 : i = v2.Entries.length := by have := of_decide_eq_false hc3; omega
 rw [List.drop_of_length_le (by omega), zo3] at hw
 subst hw
 refine OkB.exit ?_
 refine OkB.seq ?_
 refine OkB.rg zS [2, 4, 7] nc0 ?_
 refine .rn 1 ?_
 refine .nn ?_
 refine OkB.seq ?_
 refine OkB.seq ?_
 refine OkB.rg zS [2, 4, 7, 10] nc0 ?_
 refine .rn 2 ?_
 refine .hcall (H := []) (eff := [(5, some (.box [.imm 4 (v2.Entries.map TEntry.d) 4]))]) (nw := (5, 8)) (r := .fn (.func 209) [.ptr 5 0]) rfl rfl rfl rfl rfl (zcy 5 (lb rfl) (zum (.cons (.new4 _ _ rfl) (.refl _)) (zgw v2.Entries))) (fun id b h => zbi [] _ id b h) (by simp) (.inr ⟨lb rfl, lb rfl⟩) ?_
 refine .rn 0 ?_
 refine .nn ?_
 refine OkB.goes (s := ⟨[(2, .ptr 0 0), (4, .ptr 1 0), (7, .ptr 3 0), (10, .ptr 4 0), (55, .fn (.func 209) [.ptr 5 0])], Tryz.CmH v2 mk (zo3 mk v2.Entries []) ++ [(4, .box [.imm 0 [] 0]), (5, .box [.imm 4 (v2.Entries.map TEntry.d) 4])], 8⟩) (.mp [2, 4, 7, 10, 55] [0, 1, 2, 3, 4, 5] [] ⟨zdn (fun _ => rfl) (fun _ => rfl) _, trivial⟩) ?_
 refine OkB.block ?_
 have hw0 : wr .i64 ((v2.Entries.length : Int) - 1) = (v2.Entries.length : Int) - 1 := zkc _ _ (by show (-9223372036854775808 : Int) <= _; omega) (by show _ <= (9223372036854775807 : Int); omega)
 refine (OkG.rangeY Tryz.tmOk nc0 rfl rfl Tryz.func209 (by decide) rfl (by decide) (sti := ⟨[(1, .ptr 5 0)], Tryz.CmI v2 mk z.1 z.2, 9⟩) (p := none) (ds := []) rfl (fun l => ?_) (e0 := .normal) rfl).mono (fun e s _ hes => ?_)
 refine OkG.seq ?_
 simp only [Tryz.CmH, List.cons_append, List.nil_append]
 refine OkG.pYx zS hw0 ?_
 refine OkG.block ?_
 refine OkG.loopYG 8 87 (fun (j : Nat × List (List UInt8 × Int) × List TEntry) => Tryz.CmS v2 mk j.1 j.2.1 j.2.2) (fun j => j.1 <= v2.Entries.length /\ zt9 mk (v2.Entries.take j.1).reverse j.2.1 j.2.2 = some z) (fun j => j.1) (v2.Entries.length, zo3 mk v2.Entries [], []) (lb rfl) (by decide) ?_ ⟨Nat.le_refl _, by rw [List.take_length]; exact hz⟩ ?_
 show Goes _ _ _ _
 simp only [cmb, shf, List.cons_append, List.nil_append, Tryz.CmS, Tryz.CmI, Nat.reduceAdd]
 refine .new0 4 96 (lb rfl) ?_
 refine .boxs 4 _ [.ref 8 4 0 0 (some uC)] rfl (.cons (.own0 8 _ _ _ (by decide)) (.refl _)) ?_
 exact .mp [2, 4, 7, 10, 55, 88, 90] [0, 1, 2, 3, 4, 5, 8] [] ⟨zdn (fun _ => rfl) (fun _ => rfl) _, trivial⟩
 rintro ⟨k, w, left⟩ ⟨hk, hb⟩
 simp only at hk hb
 simp only [Tryz.CmS, Tryz.CmI]
 refine OkG.seq ?_
 refine OkG.seq ?_
 refine OkG.pY zS ?_
 refine OkG.cond rfl rfl (fun hc5 => ?_) (fun hc5 => ?_)
 obtain ⟨j, rfl⟩ : ∃ j, k = j + 1 := ⟨k - 1, by have := of_decide_eq_true hc5; omega⟩
 have hj : (((j + 1 : Nat) : Int) - 1) = (j : Int) := by omega
 have h1 : j < v2.Entries.length := by omega
 have e1 := zd0 TEntry.d v2.Entries j h1
 have hw1 : wr .i64 ((j : Int) - 1) = (j : Int) - 1 := zdh h1 hlen
 have hr : (v2.Entries.take (j + 1)).reverse = v2.Entries[j] :: (v2.Entries.take j).reverse := by rw [List.take_succ_eq_append_getElem h1, List.reverse_append]; rfl
 rw [hr, zt9] at hb
 simp only [hj]
 refine OkG.skip ?_
 refine OkG.seq ?_
 refine OkG.block ?_
 refine OkG.seq ?_
 by_cases hs : (v2.Entries[j]).Offset < mk /\ (mget (v2.Entries[j]).Key w).getD 0 = 0
 rw [if_pos hs] at hb
 refine OkG.ryB (ds := [.int .i64 (j : Int), .agg [.int .i64 (v2.Entries[j]).Offset, .int .i64 (v2.Entries[j]).Id, .str (v2.Entries[j]).Key, .str (v2.Entries[j]).Body]]) (heap' := [(0, .box [.int .i64 v2.Base, .int .i64 v2.Next, .int .i64 mk, .imm 4 (v2.Entries.map TEntry.d) 13]), (1, .box [.int .i64 0, .int .i64 0, .int .i64 0, .imm 0 [] 0]), (2, .map (mapD D.str (D.int .i64) w)), (3, .box [.mref 2]), (4, .box [.ref 8 4 0 left.length (some uC)]), (5, .box [.imm 4 (v2.Entries.map TEntry.d) 4]), (8, .arr 96 4 true (left.map TEntry.d)), (9, .box [.int .i64 (v2.Entries[j]).Offset, .int .i64 (v2.Entries[j]).Id, .str (v2.Entries[j]).Key, .str (v2.Entries[j]).Body])]) (nx' := 10) (e := .normal) zS e1 5 1 ?_ ?_ (hv1 := by simp; omega)
 intro lim hlim
 refine ⟨rfl, by decide, ⟨[(2, .ptr 0 0), (4, .ptr 1 0), (7, .ptr 3 0), (10, .ptr 4 0), (57, .agg [.int .i64 (v2.Entries[j]).Offset, .int .i64 (v2.Entries[j]).Id, .str (v2.Entries[j]).Key, .str (v2.Entries[j]).Body]), (12, .ptr 9 0)], [(0, .box [.int .i64 v2.Base, .int .i64 v2.Next, .int .i64 mk, .imm 4 (v2.Entries.map TEntry.d) 13]), (1, .box [.int .i64 0, .int .i64 0, .int .i64 0, .imm 0 [] 0]), (2, .map (mapD D.str (D.int .i64) w)), (3, .box [.mref 2]), (4, .box [.ref 8 4 0 left.length (some uC)]), (5, .box [.imm 4 (v2.Entries.map TEntry.d) 4]), (8, .arr 96 4 true (left.map TEntry.d)), (9, .box [.int .i64 (v2.Entries[j]).Offset, .int .i64 (v2.Entries[j]).Id, .str (v2.Entries[j]).Key, .str (v2.Entries[j]).Body])], 10⟩, ⟨[], _, _⟩, rfl, rfl, fun l B hB => ?_, fun l B hB => OkB.drop ?_⟩
 refine OkB.rg zS [2, 4, 7, 10, 57] hB ?_
 refine .rn 2 ?_
 exact .nil ⟨nofun, rfl, rfl⟩
 refine OkB.block ?_
 refine OkB.seq ?_
 refine OkB.seq ?_
 refine OkB.rg zS [2, 4, 7, 10, 12] hB ?_
 refine .rn 6 ?_
 refine .rn 6 ?_
 refine .nn ?_
 refine OkB.cond rfl rfl (fun h6 => ?_) (fun h6 => ?_)
 exact OkB.exit ⟨rfl, rfl, rfl⟩
 exact absurd h6 (by simp [hs.1, hs.2])
 refine OkG.cond rfl rfl (fun h => by cases h) (fun _ => ?_)
 refine OkG.skip ?_
 refine OkG.pYx zS hw1 ?_
 refine ⟨rfl, (j, _, _), ?_, ⟨by dsimp only; omega, hb⟩, by dsimp only; omega⟩
 show Goes _ _ _ _
 simp only [cmb, shf, List.cons_append, List.nil_append, Tryz.CmS, Tryz.CmI, Nat.reduceAdd]
 exact .mp [2, 4, 7, 10, 55, 88, 90] [0, 1, 2, 3, 4, 5, 8] [] ⟨zdn (fun _ => rfl) (fun _ => rfl) _, trivial⟩
 rw [if_neg hs] at hb
 obtain ⟨kB, hb⟩ := zaz hb
 replace kB : left.length + [v2.Entries[j]].length < 1000000 := kB
 by_cases hm : (v2.Entries[j]).Offset < mk
 rw [if_pos hm] at hb
 have hne : (mget (v2.Entries[j]).Key w).getD 0 ≠ 0 := fun h => hs ⟨hm, h⟩
 have ed1 := ya1n (D.int .i64) (v2.Entries[j]).Key w
 refine OkG.ryB (ds := [.int .i64 (j : Int), .agg [.int .i64 (v2.Entries[j]).Offset, .int .i64 (v2.Entries[j]).Id, .str (v2.Entries[j]).Key, .str (v2.Entries[j]).Body]]) (heap' := [(0, .box [.int .i64 v2.Base, .int .i64 v2.Next, .int .i64 mk, .imm 4 (v2.Entries.map TEntry.d) 13]), (1, .box [.int .i64 0, .int .i64 0, .int .i64 0, .imm 0 [] 0]), (2, .map (mapD D.str (D.int .i64) (mdel (v2.Entries[j]).Key w))), (3, .box [.mref 2]), (4, .box [.ref 11 4 0 (left.length + 1) (some uC)]), (5, .box [.imm 4 (v2.Entries.map TEntry.d) 4]), (9, .box [.int .i64 (v2.Entries[j]).Offset, .int .i64 (v2.Entries[j]).Id, .str (v2.Entries[j]).Key, .str (v2.Entries[j]).Body]), (10, .arr 96 4 true [.agg [.int .i64 (v2.Entries[j]).Offset, .int .i64 (v2.Entries[j]).Id, .str (v2.Entries[j]).Key, .str (v2.Entries[j]).Body]]), (11, .arr 96 4 true (left.map TEntry.d ++ [.agg [.int .i64 (v2.Entries[j]).Offset, .int .i64 (v2.Entries[j]).Id, .str (v2.Entries[j]).Key, .str (v2.Entries[j]).Body]]))]) (nx' := 12) (e := .normal) zS e1 5 1 ?_ ?_ (hv1 := by simp; omega)
 intro lim hlim
 refine ⟨rfl, by decide, ⟨[(2, .ptr 0 0), (4, .ptr 1 0), (7, .ptr 3 0), (10, .ptr 4 0), (57, .agg [.int .i64 (v2.Entries[j]).Offset, .int .i64 (v2.Entries[j]).Id, .str (v2.Entries[j]).Key, .str (v2.Entries[j]).Body]), (12, .ptr 9 0)], [(0, .box [.int .i64 v2.Base, .int .i64 v2.Next, .int .i64 mk, .imm 4 (v2.Entries.map TEntry.d) 13]), (1, .box [.int .i64 0, .int .i64 0, .int .i64 0, .imm 0 [] 0]), (2, .map (mapD D.str (D.int .i64) w)), (3, .box [.mref 2]), (4, .box [.ref 8 4 0 left.length (some uC)]), (5, .box [.imm 4 (v2.Entries.map TEntry.d) 4]), (8, .arr 96 4 true (left.map TEntry.d)), (9, .box [.int .i64 (v2.Entries[j]).Offset, .int .i64 (v2.Entries[j]).Id, .str (v2.Entries[j]).Key, .str (v2.Entries[j]).Body])], 10⟩, ⟨[], _, _⟩, rfl, rfl, fun l B hB => ?_, fun l B hB => OkB.drop ?_⟩
 refine OkB.rg zS [2, 4, 7, 10, 57] hB ?_
 refine .rn 2 ?_
 exact .nil ⟨nofun, rfl, rfl⟩
 refine OkB.block ?_
 refine OkB.seq ?_
 refine OkB.seq ?_
 refine OkB.rg zS [2, 4, 7, 10, 12] hB ?_
 refine .rn 6 ?_
 refine .rn 6 ?_
 refine .nn ?_
 refine OkB.cond rfl rfl (fun h6 => ?_) (fun h6 => ?_)
 exact absurd h6 (by simp [hm, hne])
 refine OkB.skip ?_
 refine OkB.seq ?_
 refine OkB.seq ?_
 refine OkB.rg zS [2, 4, 7, 10, 12] hB ?_
 refine .rn 5 ?_
 refine .nn ?_
 refine OkB.cond rfl rfl (fun h7 => ?_) (fun h7 => ?_)
 refine OkB.rg zS [7, 10, 12] hB ?_
 refine .rnx 4 ed1 ?_
 refine .nn ?_
 refine OkB.rg zS [10, 12] hB ?_
 refine .rn 5 ?_
 refine .rn 0 ?_
 exact .nil ⟨nofun, rfl, rfl, rfl⟩
 exact absurd h7 (by simp [hm])
 refine OkG.cond rfl rfl (fun h => by cases h) (fun _ => ?_)
 refine OkG.skip ?_
 refine OkG.pYx zS hw1 ?_
 refine ⟨rfl, (j, _, _), ?_, ⟨by dsimp only; omega, hb⟩, by dsimp only; omega⟩
 show Goes _ _ _ _
 simp only [cmb, shf, List.cons_append, List.nil_append, Tryz.CmS, Tryz.CmI, Nat.reduceAdd]
 exact .mp [2, 4, 7, 10, 55, 88, 90] [0, 1, 2, 3, 4, 5, 11] [(11, 8)] ⟨zdn (fun _ => rfl) (fun _ => rfl) _, trivial⟩
 rw [if_neg hm] at hb
 refine OkG.ryB (ds := [.int .i64 (j : Int), .agg [.int .i64 (v2.Entries[j]).Offset, .int .i64 (v2.Entries[j]).Id, .str (v2.Entries[j]).Key, .str (v2.Entries[j]).Body]]) (heap' := [(0, .box [.int .i64 v2.Base, .int .i64 v2.Next, .int .i64 mk, .imm 4 (v2.Entries.map TEntry.d) 13]), (1, .box [.int .i64 0, .int .i64 0, .int .i64 0, .imm 0 [] 0]), (2, .map (mapD D.str (D.int .i64) w)), (3, .box [.mref 2]), (4, .box [.ref 11 4 0 (left.length + 1) (some uC)]), (5, .box [.imm 4 (v2.Entries.map TEntry.d) 4]), (9, .box [.int .i64 (v2.Entries[j]).Offset, .int .i64 (v2.Entries[j]).Id, .str (v2.Entries[j]).Key, .str (v2.Entries[j]).Body]), (10, .arr 96 4 true [.agg [.int .i64 (v2.Entries[j]).Offset, .int .i64 (v2.Entries[j]).Id, .str (v2.Entries[j]).Key, .str (v2.Entries[j]).Body]]), (11, .arr 96 4 true (left.map TEntry.d ++ [.agg [.int .i64 (v2.Entries[j]).Offset, .int .i64 (v2.Entries[j]).Id, .str (v2.Entries[j]).Key, .str (v2.Entries[j]).Body]]))]) (nx' := 12) (e := .normal) zS e1 5 1 ?_ ?_ (hv1 := by simp; omega)
 intro lim hlim
 refine ⟨rfl, by decide, ⟨[(2, .ptr 0 0), (4, .ptr 1 0), (7, .ptr 3 0), (10, .ptr 4 0), (57, .agg [.int .i64 (v2.Entries[j]).Offset, .int .i64 (v2.Entries[j]).Id, .str (v2.Entries[j]).Key, .str (v2.Entries[j]).Body]), (12, .ptr 9 0)], [(0, .box [.int .i64 v2.Base, .int .i64 v2.Next, .int .i64 mk, .imm 4 (v2.Entries.map TEntry.d) 13]), (1, .box [.int .i64 0, .int .i64 0, .int .i64 0, .imm 0 [] 0]), (2, .map (mapD D.str (D.int .i64) w)), (3, .box [.mref 2]), (4, .box [.ref 8 4 0 left.length (some uC)]), (5, .box [.imm 4 (v2.Entries.map TEntry.d) 4]), (8, .arr 96 4 true (left.map TEntry.d)), (9, .box [.int .i64 (v2.Entries[j]).Offset, .int .i64 (v2.Entries[j]).Id, .str (v2.Entries[j]).Key, .str (v2.Entries[j]).Body])], 10⟩, ⟨[], _, _⟩, rfl, rfl, fun l B hB => ?_, fun l B hB => OkB.drop ?_⟩
 refine OkB.rg zS [2, 4, 7, 10, 57] hB ?_
 refine .rn 2 ?_
 exact .nil ⟨nofun, rfl, rfl⟩
 refine OkB.block ?_
 refine OkB.seq ?_
 refine OkB.seq ?_
 refine OkB.rg zS [2, 4, 7, 10, 12] hB ?_
 refine .rn 6 ?_
 refine .rn 6 ?_
 refine .nn ?_
 refine OkB.cond rfl rfl (fun h6 => ?_) (fun h6 => ?_)
 exact absurd h6 (by simp [hm])
 refine OkB.skip ?_
 refine OkB.seq ?_
 refine OkB.seq ?_
 refine OkB.rg zS [2, 4, 7, 10, 12] hB ?_
 refine .rn 5 ?_
 refine .nn ?_
 refine OkB.cond rfl rfl (fun h7 => ?_) (fun h7 => ?_)
 exact absurd h7 (by simp [hm])
 refine OkB.skip ?_
 refine OkB.rg zS [10, 12] hB ?_
 refine .rn 5 ?_
 refine .rn 0 ?_
 exact .nil ⟨nofun, rfl, rfl, rfl⟩
 refine OkG.cond rfl rfl (fun h => by cases h) (fun _ => ?_)
 refine OkG.skip ?_
 refine OkG.pYx zS hw1 ?_
 refine ⟨rfl, (j, _, _), ?_, ⟨by dsimp only; omega, hb⟩, by dsimp only; omega⟩
 show Goes _ _ _ _
 simp only [cmb, shf, List.cons_append, List.nil_append, Tryz.CmS, Tryz.CmI, Nat.reduceAdd]
 exact .mp [2, 4, 7, 10, 55, 88, 90] [0, 1, 2, 3, 4, 5, 11] [(11, 8)] ⟨zdn (fun _ => rfl) (fun _ => rfl) _, trivial⟩
 obtain rfl : k = 0 := by have := of_decide_eq_false hc5; omega
 simp only [List.take_zero, List.reverse_nil, zt9, Option.some.injEq] at hb
 subst hb
 refine OkG.varsY [1] ?_
 exact OkG.exit ⟨by simp, rfl, rfl⟩
 obtain ⟨rfl, rfl⟩ := hes
 obtain ⟨v3, hv3, h⟩ := bind_some h
 have hl3 : v3.length = z.2.length := ya2n hv3
 simp only [Tryz.CmI]
 refine OkB.seq ?_
 refine OkB.rg zS [2, 4, 10] nc0 ?_
 refine .rn 1 ?_
 refine .hcall (H := [(8, .arr 96 4 true (z.2.map TEntry.d))]) (eff := [(8, some (.arr 96 4 true (v3.map TEntry.d)))]) (nw := (9, 11)) (r := .tuple []) rfl rfl rfl rfl rfl (zgx 9 (zdv 20000 8 (zh2 z.2 v3 hv3))) (fun id b h => zbi [8] _ id b h) (by simp) (.inr ⟨lb rfl, lb rfl⟩) ?_
 refine .rn 0 ?_
 refine .nn ?_
 simp only [<- hl3]
 refine OkB.seq ?_
 refine OkB.rg zS [2, 4, 10] nc0 ?_
 refine .rn 3 ?_
 refine .nn ?_
 refine OkB.seq ?_
 refine OkB.rg zS [2, 4] nc0 ?_
 refine .rn 3 ?_
 refine .nn ?_
 obtain rfl := sj h
 refine OkB.goes (.giveb 1 [.int .i64 v2.Base, .int .i64 v2.Next, .int .i64 mk, .ref 8 4 0 v3.length (some uC)] [.int .i64 v2.Base, .int .i64 v2.Next, .int .i64 mk, .imm 4 (v3.map TEntry.d) 13] [1] rfl rfl (za5 rfl (za5 rfl (za5 rfl (za5 (zcj zh7 rfl rfl) zcr)))) (by simp only [go_sem, D.ids, D.idsL, List.append_nil, List.nil_append, List.cons_append, List.mem_cons, List.not_mem_nil, or_false, forall_eq_or_imp, forall_eq, Nat.reduceBEq] <;> simp) .refl) ?_
 exact OkB.ret ⟨.inr rfl, rsi⟩
end Go.Proofs
end
section
namespace Go.Proofs
open Go.RowKit Go.Extern.Stop Go.Stop Go.Extern
theorem Tryz.valueOfP (t : Addr) (w : World) : (ReflectliteValue.unpack (.iface 127 (.pointer (some t)))).run Tryz.prog w = .ok (.agg #[.pointer (some ⟨1, 127, none⟩), .pointer (some ⟨w.heap.size, 0, none⟩), .int .u64 150]) (w.alloc (.cells #[.pointer (some t)] 127)) := by kernel_rfl
theorem Tryz.typeP (a : Addr) (w : World) : (ReflectliteValue.methodAny (ReflectliteValue.valueError "reflectlite.Value.Type" 0) (fun t _ _ _ => ReflectliteType.toType t) #[.agg #[.pointer (some ⟨1, 127, none⟩), .pointer (some a), .int .u64 150]]).run Tryz.prog w = .ok (.iface 227 (.agg #[.pointer (some ⟨1, 127, none⟩)])) w := by kernel_rfl
theorem Tryz.mKind (h : Value) (w : World) : (Go.method 429 227 (.agg #[h]) "Kind").run Tryz.prog w = .ok (231, h) w := by kernel_rfl
theorem Tryz.kindP (w : World) : ((ReflectliteType.abiMethod fun t => (fun a : Nat => Value.int IntKind.u8 (a : Int)) <$> Rtype.kind t) #[.pointer (some ⟨1, 127, none⟩)]).run Tryz.prog w = .ok (.int .u8 22) w := by kernel_rfl
theorem Tryz.kindW (w : World) : ((ReflectliteType.abiMethod fun t => (fun a : Nat => Value.int IntKind.u8 (a : Int)) <$> Rtype.kind t) #[.pointer (some ⟨1, 106, none⟩)]).run Tryz.prog w = .ok (.int .u8 25) w := by kernel_rfl
theorem rlm (z : Sem Value) (f : TypeId -> Addr -> Nat -> Nat -> Sem Value) (v : Value) :
  ReflectliteValue.method z f #[v] = (do match <- ReflectliteValue.parts v with | none => z | some (t, a, fl) => f t a fl (fl % 32)) := rfl
theorem Tryz.partsP (a : Addr) (w : World) : (ReflectliteValue.parts (.agg #[.pointer (some ⟨1, 127, none⟩), .pointer (some a), .int .u64 150])).run Tryz.prog w = .ok (some (127, a, 150)) w := by kernel_rfl
theorem Tryz.isNilP (a p : Addr) (W : World) (ha : W.cell? a = some (.pointer (some p))) :
  (ReflectliteValue.method (ReflectliteValue.valueError "reflectlite.Value.IsNil" 0) ReflectliteValue.isNil #[.agg #[.pointer (some ⟨1, 127, none⟩), .pointer (some a), .int .u64 150]]).run Tryz.prog W = .ok (.bool false) W := by
 rw [rlm]
 simp only [Sem.run_bind, Tryz.partsP, Result.andThen]
 simp [ReflectliteValue.isNil, loadVar, isAgg, underlying, Tryz.underlying127, ha, Result.andThen]
theorem Tryz.mElem (h : Value) (w : World) : (Go.method 429 227 (.agg #[h]) "Elem").run Tryz.prog w = .ok (243, .agg #[h]) w := by kernel_rfl
theorem Tryz.mImpl (h : Value) (w : World) : (Go.method 429 227 (.agg #[h]) "Implements").run Tryz.prog w = .ok (244, .agg #[h]) w := by kernel_rfl
theorem Tryz.mAssg (h : Value) (w : World) : (Go.method 429 227 (.agg #[h]) "AssignableTo").run Tryz.prog w = .ok (241, .agg #[h]) w := by kernel_rfl
theorem Tryz.elemP (w : World) : (ReflectliteType.method ReflectliteType.elem #[.agg #[.pointer (some ⟨1, 127, none⟩)]]).run Tryz.prog w = .ok (.iface 227 (.agg #[.pointer (some ⟨1, 106, none⟩)])) w := by kernel_rfl
theorem Tryz.implW (w : World) : (ReflectliteType.relation "Implements" ReflectliteType.implements_ #[.agg #[.pointer (some ⟨1, 106, none⟩)], .iface 227 (.agg #[.pointer (some ⟨1, 76, none⟩)])]).run Tryz.prog w = .ok (.bool true) w := by kernel_rfl
theorem Tryz.typeOfF (v : Value) (w : World) : (ReflectliteType.typeOf #[.iface 179 v]).run Tryz.prog w = .ok (.iface 227 (.agg #[.pointer (some ⟨1, 179, none⟩)])) w := by kernel_rfl
theorem Tryz.typeOfW (v : Value) (w : World) : (ReflectliteType.typeOf #[.iface 106 v]).run Tryz.prog w = .ok (.iface 227 (.agg #[.pointer (some ⟨1, 106, none⟩)])) w := by kernel_rfl
theorem Tryz.assgF (w : World) : (ReflectliteType.relation "AssignableTo" ReflectliteType.assignableTo #[.agg #[.pointer (some ⟨1, 179, none⟩)], .iface 227 (.agg #[.pointer (some ⟨1, 106, none⟩)])]).run Tryz.prog w = .ok (.bool false) w := by kernel_rfl
theorem Tryz.assgW (w : World) : (ReflectliteType.relation "AssignableTo" ReflectliteType.assignableTo #[.agg #[.pointer (some ⟨1, 106, none⟩)], .iface 227 (.agg #[.pointer (some ⟨1, 106, none⟩)])]).run Tryz.prog w = .ok (.bool true) w := by kernel_rfl
theorem Tryz.valueOfW (e : Int) (w : World) : (ReflectliteValue.unpack (.iface 106 (.agg #[.int .i64 e]))).run Tryz.prog w = .ok (.agg #[.pointer (some ⟨1, 106, none⟩), .pointer (some ⟨w.heap.size, 0, none⟩), .int .u64 153]) (w.alloc (.cells #[.int .i64 e] 106)) := by kernel_rfl
theorem Tryz.elemOfP (w : World) : (Rtype.elem? 127).run Tryz.prog w = .ok (some 106) w := by kernel_rfl
theorem Tryz.mkW (p : Addr) (w : World) : (ReflectliteValue.mk 106 p ReflectliteValue.flagAddr).run Tryz.prog w = .ok (.agg #[.pointer (some ⟨1, 106, none⟩), .pointer (some p), .int .u64 409]) w := by kernel_rfl
theorem Tryz.elemVP (a p : Addr) (W : World) (ha : W.cell? a = some (.pointer (some p))) :
  (ReflectliteValue.method (ReflectliteValue.valueError "reflectlite.Value.Elem" 0) ReflectliteValue.elem #[.agg #[.pointer (some ⟨1, 127, none⟩), .pointer (some a), .int .u64 150]]).run Tryz.prog W = .ok (.agg #[.pointer (some ⟨1, 106, none⟩), .pointer (some p), .int .u64 409]) W := by
 rw [rlm]
 simp only [Sem.run_bind, Tryz.partsP, Result.andThen]
 simp [ReflectliteValue.elem, loadVar, isAgg, underlying, Tryz.underlying127, ha, Result.andThen, Tryz.elemOfP, Tryz.mkW]
theorem Tryz.noAsF (v : Value) (xT : TypeId) (w : World) : (Instr.typeAssert (.iface 179 v) xT 245 true).run Tryz.prog w = .ok (.tuple #[.nilIface, .bool false]) w := run_typeAssert_lacksB Tryz.underlying245 (by kernel_rfl) (by kernel_rfl) v xT w
theorem Tryz.hasUnF (v : Value) (xT : TypeId) (w : World) : (Instr.typeAssert (.iface 179 v) xT 232 true).run Tryz.prog w = .ok (.tuple #[.iface 179 v, .bool true]) w := run_typeAssert_hasB Tryz.underlying232 (by kernel_rfl) v xT w
theorem Tryz.mUnw (v : Value) (w : World) : (Go.method 429 179 v "Unwrap").run Tryz.prog w = .ok (236, v) w := by kernel_rfl
theorem Tryz.rls (v x : Value) : ReflectliteValue.set #[v, x] = (do
  let (some (dst, a, fl), some (src, b, _)) := (<- ReflectliteValue.parts v, <- ReflectliteValue.parts x)
   | unsupported (.noEntry "extern/(internal/reflectlite.Value).Set.zeroValue")
  if fl / ReflectliteValue.flagAddr % 2 == 0 then unsupported (.noEntry "extern/(internal/reflectlite.Value).Set.unaddressable")
  let val <- loadVar src b
  if <- Rtype.directlyAssignable dst src then storeVar dst a val
  else if <- Rtype.implements dst src then
   if (<- Rtype.kind src) == 20 then
    match val with
    | .nilIface => unsupported (.noEntry "extern/reflectlite: a nil value of one interface type handed on as a value of another")
    | _ => storeVar dst a val
   else storeVar dst a (.iface src val)
  else panicString ("reflectlite.Set: value of type " ++ (<- Rtype.spelt src) ++ " is not assignable to type " ++ (<- Rtype.spelt dst))
  pure (.tuple #[])) := rfl
theorem Tryz.partsWa (a : Addr) (w : World) : (ReflectliteValue.parts (.agg #[.pointer (some ⟨1, 106, none⟩), .pointer (some a), .int .u64 409])).run Tryz.prog w = .ok (some (106, a, 409)) w := by kernel_rfl
theorem Tryz.partsW (a : Addr) (w : World) : (ReflectliteValue.parts (.agg #[.pointer (some ⟨1, 106, none⟩), .pointer (some a), .int .u64 153])).run Tryz.prog w = .ok (some (106, a, 153)) w := by kernel_rfl
theorem Tryz.directW (w : World) : (Rtype.directlyAssignable 106 106).run Tryz.prog w = .ok true w := by kernel_rfl
theorem Tryz.setW (ta b : Addr) (e : Int) (old : Value) (W : World) (hb : W.cell? b = some (.int .i64 e)) (ht : W.cell? ta = some old) (hf : W.frozen? ta = false) :
  (ReflectliteValue.set #[.agg #[.pointer (some ⟨1, 106, none⟩), .pointer (some ta), .int .u64 409], .agg #[.pointer (some ⟨1, 106, none⟩), .pointer (some b), .int .u64 153]]).run Tryz.prog W
   = .ok (.tuple #[]) (W.setCell ta (.int .i64 e)) := by
 rw [Tryz.rls]
 simp only [Sem.run_bind, Tryz.partsWa, Tryz.partsW, Result.andThen]
 simp [ReflectliteValue.flagAddr, loadVar, isAgg, underlying, Tryz.underlying106, loadCells, loadCellsFrom, hb, Result.andThen, Tryz.directW, storeVar, Value.cells, storeCells, Addr.add]
 rw [run_store Tryz.prog W ta _ _ (by rfl)]
 simp [ht, hf]
end Go.Proofs
end
section
namespace Go.Proofs
open Go.RowKit Go.Extern.Stop Go.Stop Go.Extern
set_option maxRecDepth 100000 in
set_option maxHeartbeats 4000000 in
theorem Tryz.number_hit (s : ByteArray) (e : Int) (w : World) (hg : w.cell? ⟨0, 0, none⟩ = some (.iface 227 (.agg #[.pointer (some ⟨1, 76, none⟩)]))) :
  Calls Tryz.prog 34 #[.iface 179 (.agg #[.string s, .iface 106 (.agg #[.int .i64 e])])] w fun ev w' => ev = .returned (.int .i64 e) /\ Go.RowKit.Below w.heap.size w w' := by
 have h6 := @run_callFunc_extern Tryz.prog 122 _ (fun args => ReflectliteValue.unpack (args.getD 0 (.tuple #[]))) Tryz.func122 (by kernel_rfl) (by kernel_rfl) (by kernel_rfl) (by kernel_rfl)
 have h7 := @run_callFunc_extern Tryz.prog 123 _ (ReflectliteValue.methodAny (ReflectliteValue.valueError "reflectlite.Value.Type" 0) (fun t _ _ _ => ReflectliteType.toType t)) Tryz.func123 (by kernel_rfl) (by kernel_rfl) (by kernel_rfl) (by kernel_rfl)
 have h8 := @run_callFunc_extern Tryz.prog 124 _ (ReflectliteValue.method (ReflectliteValue.valueError "reflectlite.Value.IsNil" 0) ReflectliteValue.isNil) Tryz.func124 (by kernel_rfl) (by kernel_rfl) (by kernel_rfl) (by kernel_rfl)
 have h27 := @run_callFunc_extern Tryz.prog 231 _ (ReflectliteType.abiMethod fun t => do pure (.int .u8 (<- Rtype.kind t))) Tryz.func231 (by kernel_rfl) (by kernel_rfl) (by kernel_rfl) (by kernel_rfl)
 have h37 := @run_callFunc_extern Tryz.prog 243 _ (ReflectliteType.method ReflectliteType.elem) Tryz.func243 (by kernel_rfl) (by kernel_rfl) (by kernel_rfl) (by kernel_rfl)
 have h38 := @run_callFunc_extern Tryz.prog 244 _ (ReflectliteType.relation "Implements" ReflectliteType.implements_) Tryz.func244 (by kernel_rfl) (by kernel_rfl) (by kernel_rfl) (by kernel_rfl)
 have h10 := @run_callFunc_extern Tryz.prog 115 _ ReflectliteType.typeOf Tryz.func115 (by kernel_rfl) (by kernel_rfl) (by kernel_rfl) (by kernel_rfl)
 have h35 := @run_callFunc_extern Tryz.prog 241 _ (ReflectliteType.relation "AssignableTo" ReflectliteType.assignableTo) Tryz.func241 (by kernel_rfl) (by kernel_rfl) (by kernel_rfl) (by kernel_rfl)
 have h11 := @run_callFunc_extern Tryz.prog 166 _ (ReflectliteValue.method (ReflectliteValue.valueError "reflectlite.Value.Elem" 0) ReflectliteValue.elem) Tryz.func166 (by kernel_rfl) (by kernel_rfl) (by kernel_rfl) (by kernel_rfl)
 have h12 := @run_callFunc_extern Tryz.prog 167 _ ReflectliteValue.set Tryz.func167 (by kernel_rfl) (by kernel_rfl) (by kernel_rfl) (by kernel_rfl)
 have t1 := Tryz.typeOfF
 have t2 := Tryz.typeOfW
 have m1 := Tryz.mAssg
 have a1 := Tryz.assgF
 have a2 := Tryz.assgW
 have v1 := Tryz.valueOfW
 have f6 := Tryz.valueOfP
 have f7 := Tryz.typeP
 have mK := Tryz.mKind
 have mE := Tryz.mElem
 have mI := Tryz.mImpl
 have k1 := Tryz.kindP
 have k2 := Tryz.kindW
 have e1 := Tryz.elemP
 have i1 := Tryz.implW
 have n1 := Tryz.noAsF
 have u1 := Tryz.hasUnF
 have mU := Tryz.mUnw
 have hlt : 0 < w.heap.size := by
  rcases Nat.eq_zero_or_pos w.heap.size with h0 | h
  ·simp [World.cell?, h0] at hg
  ·exact h
 have n8 := Tryz.isNilP ⟨w.heap.size + 1, 0, none⟩ ⟨w.heap.size, 0, none⟩ ((((w.alloc (.cells #[.int .i64 0] 106)).alloc (.cells #[.pointer (some ⟨w.heap.size, 0, none⟩)] 127))).alloc (.cells #[.pointer (some ⟨1, 127, none⟩), .pointer (some ⟨w.heap.size + 1, 0, none⟩), .int .u64 150] 185)) (by
  rw [World.cell?_alloc_lt _ _ ⟨w.heap.size + 1, 0, none⟩ (by simp), World.cell?_alloc_at _ _ _ _ (by simp)]; rfl)
 have hg2 : ((((w.alloc (.cells #[.int .i64 0] 106)).alloc (.cells #[.pointer (some ⟨w.heap.size, 0, none⟩)] 127))).alloc (.cells #[.pointer (some ⟨1, 127, none⟩), .pointer (some ⟨w.heap.size + 1, 0, none⟩), .int .u64 150] 185)).cell? ⟨0, 0, none⟩ = some (.iface 227 (.agg #[.pointer (some ⟨1, 76, none⟩)])) := by
  rw [World.cell?_alloc_lt _ _ ⟨0, 0, none⟩ (by simp), World.cell?_alloc_lt _ _ ⟨0, 0, none⟩ (by simp), World.cell?_alloc_lt _ _ ⟨0, 0, none⟩ hlt]; exact hg
 have el := Tryz.elemVP ⟨w.heap.size + 1, 0, none⟩ ⟨w.heap.size, 0, none⟩ (((((w.alloc (.cells #[.int .i64 0] 106)).alloc (.cells #[.pointer (some ⟨w.heap.size, 0, none⟩)] 127)).alloc (.cells #[.pointer (some ⟨1, 127, none⟩), .pointer (some ⟨w.heap.size + 1, 0, none⟩), .int .u64 150] 185)).alloc (.cells #[.pointer (some ⟨1, 127, none⟩), .pointer (some ⟨w.heap.size + 1, 0, none⟩), .int .u64 150] 185)).alloc (.cells #[.string s, .iface 106 (.agg #[.int .i64 e])] 179)) (by
  rw [World.cell?_alloc_lt _ _ ⟨w.heap.size + 1, 0, none⟩ (by simp <;> omega), World.cell?_alloc_lt _ _ ⟨w.heap.size + 1, 0, none⟩ (by simp <;> omega), World.cell?_alloc_lt _ _ ⟨w.heap.size + 1, 0, none⟩ (by simp), World.cell?_alloc_at _ _ _ _ (by simp)]; rfl)
 have st := Tryz.setW ⟨w.heap.size, 0, none⟩ ⟨w.heap.size + 1 + 1 + 1 + 1 + 1, 0, none⟩ e (.int .i64 0) ((((((w.alloc (.cells #[.int .i64 0] 106)).alloc (.cells #[.pointer (some ⟨w.heap.size, 0, none⟩)] 127)).alloc (.cells #[.pointer (some ⟨1, 127, none⟩), .pointer (some ⟨w.heap.size + 1, 0, none⟩), .int .u64 150] 185)).alloc (.cells #[.pointer (some ⟨1, 127, none⟩), .pointer (some ⟨w.heap.size + 1, 0, none⟩), .int .u64 150] 185)).alloc (.cells #[.string s, .iface 106 (.agg #[.int .i64 e])] 179)).alloc (.cells #[.int .i64 e] 106))
  (by rw [World.cell?_alloc_at _ _ _ _ (by simp)]; rfl)
  (by rw [World.cell?_alloc_lt _ _ ⟨w.heap.size, 0, none⟩ (by simp <;> omega), World.cell?_alloc_lt _ _ ⟨w.heap.size, 0, none⟩ (by simp <;> omega), World.cell?_alloc_lt _ _ ⟨w.heap.size, 0, none⟩ (by simp <;> omega), World.cell?_alloc_lt _ _ ⟨w.heap.size, 0, none⟩ (by simp <;> omega), World.cell?_alloc_lt _ _ ⟨w.heap.size, 0, none⟩ (by simp), World.cell?_alloc_at _ _ _ _ (by simp)]; rfl)
  (by rw [World.frozen?_alloc_old _ _ ⟨w.heap.size, 0, none⟩ (by simp <;> omega), World.frozen?_alloc_old _ _ ⟨w.heap.size, 0, none⟩ (by simp <;> omega), World.frozen?_alloc_old _ _ ⟨w.heap.size, 0, none⟩ (by simp <;> omega), World.frozen?_alloc_old _ _ ⟨w.heap.size, 0, none⟩ (by simp <;> omega), World.frozen?_alloc_old _ _ ⟨w.heap.size, 0, none⟩ (by simp)]; simp)
 go_enter Tryz.func34, Tryz.ntmps34
 go_wp2
 refine wp_loop_rounds 2 ?_
 rw [rounds_succ]
 go_wp2
 rw [rounds_succ]
 go_wp2
 go_ret
 exact ⟨rfl, (((((((Below.refl _ w).alloc (Nat.le_refl _) _).alloc (by simp <;> omega) _).alloc (by simp <;> omega) _).alloc (by simp <;> omega) _).alloc (by simp <;> omega) _).alloc (by simp <;> omega) _)⟩
theorem Tryz.number_nil (w : World) : Calls Tryz.prog 34 #[.nilIface] w fun ev w' => ev = .returned (.int .i64 0) /\ Go.RowKit.Below w.heap.size w w' := by
 go_enter Tryz.func34, Tryz.ntmps34
 go_wp2
 go_ret
 exact ⟨rfl, (Below.refl _ w).alloc (Nat.le_refl _) _⟩
end Go.Proofs
end
section
namespace Go.Tm
open Go.RowKit Go.WideShapes
section
variable {P : Program} {tab : Nat -> TI} (hT : zga P tab) (hm : P.follows .mixedOrders = true) {ft : Nat -> Option Func} {pt : Nat -> Nat -> List (Nat × Nat)} (hft : FtOk P ft pt) {LF : Nat} {l : List Ent}
end
end Go.Tm
end
section
namespace Go.Tm
open Go.RowKit Go.WideShapes
theorem Mem.ext {fr : Nat} {w w' : World} {g : Gh} {hp : Nat -> Option Blk} {nu : Nat -> Bool} (h : Mem fr w g hp nu) (hK : Keep (fun _ => False) w w') : Mem fr w' g hp nu :=
 h.change (g' := g) (ch := fun _ => False) (hK.mono fun _ _ h => h.elim) rfl rfl (fun _ _ => rfl) (fun _ h => .inr h) (fun _ _ h => .inl ⟨fun h => h, h⟩) h.inj h.nw
theorem zsd {P : Program} {K : FuncId} {args : List D} {r : D} {v0 : Value} (n : Nat) (he : zlh P K)
  (h : ∀ w C vs, Gw w.heap.size w -> reps C args vs -> (∀ C, rep C r v0) /\ Calls P K vs.toArray w fun e w' => e = .returned v0 /\ Below w.heap.size w w') : zbo P K args [] r [] (n, n) := by
 refine ⟨he, fun fr w g hp nu vs hM _ _ hvs => ?_⟩
 obtain ⟨hr, hc⟩ := h w _ vs hM.fl.gw hvs
 refine hc.mono ?_
 rintro e w' ⟨rfl, hB⟩
 have hK : Keep (fun _ => False) w w' := Keep.of_below hB
 have hN : effN nu (n, n) = nu := by
  funext id
  unfold effN
  have : (decide (n <= id) && decide (id < n)) = false := by simp
  rw [this]; simp
 refine ⟨v0, g, rfl, ⟨⟨rfl, rfl⟩, fun _ _ => rfl, hK.mono fun _ _ h => h.elim, ?_, fun b hb => .inr ?_, hr _⟩⟩
 rw [zp8, hN]; exact hM.ext hK
 rw [zp8] at hb; exact hb
structure IsNil (P : Program) (K : Nat) : Prop where
 en : zlh P K
 nl : ∀ (t : Nat) (x : Value) w, Calls P K #[.nilIface, .iface t x] w fun e w' => e = .returned (.bool false) /\ w' = w
end Go.Tm
end
section
namespace Go.Proofs
open Go.Tm Go.RowKit
theorem Tryz.numEn : zlh Tryz.prog 34 := ⟨Tryz.f34, Tryz.func34, by decide, by kernel_rfl⟩
theorem zjj (a0 : Option (List UInt8 × Int)) (r : Int) (h : zjo a0 = some r) : zaq Tryz.prog 34 [erD a0] (.int .i64 r) := by
 cases a0 with
 | none =>
  obtain rfl := sj h
  refine zge rfl rfl (zsd (v0 := .int .i64 0) 0 Tryz.numEn ?_)
  intro w C vs hg hvs
  simp only [erD, reps, rep] at hvs
  obtain ⟨v, vs', rfl, rfl, rfl⟩ := hvs
  exact ⟨fun C => zz3.2 ⟨rfl, by decide, by decide⟩, Tryz.number_nil w⟩
 | some x =>
  obtain rfl := sj h
  refine zge rfl rfl (zsd (v0 := .int .i64 x.2) 0 Tryz.numEn ?_)
  intro w' C vs hg hvs
  simp only [erD, reps, rep] at hvs
  obtain ⟨v, vs', rfl, ⟨x1, rfl, cs, rfl, v1, vs1, rfl, ⟨rfl, -⟩, v2, vs2, rfl, ⟨y, rfl, cs2, rfl, v3, vs3, rfl, ⟨rfl, h1, h2⟩, rfl⟩, rfl⟩, rfl⟩ := hvs
  exact ⟨fun C => zz3.2 ⟨rfl, h1, h2⟩, Tryz.number_hit _ x.2 w' (hg _ rfl).2⟩
end Go.Proofs
end
section

end
section
namespace Go.Proofs
open Go.Tm
set_option linter.unusedVariables false
def zfp (a0 : TStream) (a1 : TCommand) : Option (TStream × Int) :=
 if (((a1.Who < 0) \/ (a1.Who >= 8)) \/ (a1.N < 0)) \/ (a1.N > 1073741824) then
 some ((⟨[], []⟩ : TStream), 2)
 else
 if (0 <= a1.Topic /\ a1.Topic < (a0.Topics.length : Int)) then
 if a1.N > (a0.Topics.getD a1.Topic.toNat default).Next then
 some ((⟨[], []⟩ : TStream), 170)
 else
 Option.bind (zee a0) fun v1 =>
 Option.bind (zgu v1.Commits a1.Topic a1.Who a1.N) fun v2 =>
 some ((⟨v1.Topics, v2.1⟩ : TStream), 0)
 else none
def zix (a0 : TStream) (a1 : TCommand) : Option (TStream × Int) :=
 Option.bind (zfd a0 a1.Topic) fun v1 =>
 if ¬ (v1 = 0) then
 some ((⟨[], []⟩ : TStream), v1)
 else
 if a1.Kind = 4 then
 Option.bind (zfp a0 a1) fun v2 =>
 some (v2.1, v2.2)
 else
 if a1.Kind = 5 then
 if (0 <= a1.Topic /\ a1.Topic < (a0.Topics.length : Int)) then
 Option.bind (zh9 (a0.Topics.getD a1.Topic.toNat default) a1.N) fun v3 =>
 if ¬ (v3.2 = 0) then
 some ((⟨[], []⟩ : TStream), v3.2)
 else
 Option.bind (zf3 a0 a1.Topic v3.1) fun v4 =>
 some (v4, 0)
 else none
 else
 if a1.Kind = 6 then
 if (0 <= a1.Topic /\ a1.Topic < (a0.Topics.length : Int)) then
 Option.bind (zes (a0.Topics.getD a1.Topic.toNat default) a1.N) fun v5 =>
 if ¬ (v5.2 = 0) then
 some ((⟨[], []⟩ : TStream), v5.2)
 else
 Option.bind (zf3 a0 a1.Topic v5.1) fun v6 =>
 some (v6, 0)
 else none
 else
 some ((⟨[], []⟩ : TStream), 2)
def zfs (a0 : Int) : Option Bool :=
 some ((decide (a0 < 0)) || (decide (a0 > 1048576)))
def zei (a0 : THome) : Option Int :=
 Option.bind (zf4 a0.Skeen) fun v1 =>
 Option.bind (if ¬ (¬ (v1 = 0)) then zfe a0.Stream else some default) fun v2 =>
 Option.bind (if ¬ (((¬ (v1 = 0)) \/ (¬ (v2 = 0))) \/ (¬ ((a0.Last.length : Int) = 6))) then zbd a0.Last zfs else some default) fun v3 =>
 if (((¬ (v1 = 0)) \/ (¬ (v2 = 0))) \/ (¬ ((a0.Last.length : Int) = 6))) \/ (v3 = true) then
 some 8
 else
 some 0
def zhp (a0 : THome) : Option THome :=
 Option.bind (zeh a0.Skeen) fun v1 =>
 Option.bind (zee a0.Stream) fun v2 =>
 Option.bind (zbk a0.Last) fun v3 =>
 some (⟨v1, v2, v3⟩ : THome)
def zdx (a0 : THome) (a1 : THome) : Option Bool :=
 Option.bind (zho a0.Skeen a1.Skeen) fun v1 =>
 Option.bind (if v1 = true then zgr a0.Stream a1.Stream else some default) fun v2 =>
 Option.bind (if (v1 = true) /\ (v2 = true) then zbj a0.Last a1.Last else some default) fun v3 =>
 some ((v1 && v2) && v3)
def zdw (a0 : List UInt8) (a1 : Int) : Option ((Option (List UInt8 × Int))) :=
 if a1 = 0 then
 some none
 else
 some (some (a0, a1))
def zi6 (a0 : Int) : Option ((Option (List UInt8 × Int))) :=
 if (a0 < 0) \/ (a0 >= 4) then
 Option.bind (zdw [103, 114, 111, 117, 112] 2) fun v1 =>
 (match v1 with
 | none =>
 some none
 | some er1 =>
 some (some er1))
 else
 some none
def zc9 (a0 : Tgroup_home) (a1 : TCommand) : Option Tgroup_home :=
 Option.bind (zjw a1.Id) fun v1 =>
 if (0 <= v1.1 /\ v1.1 < (a0.Home.Last.length : Int)) then
 if (a0.Home.Last.getD v1.1.toNat default) > v1.2.1 then
 some a0
 else
 if (0 <= v1.1 /\ v1.1 < (a0.Home.Last.length : Int)) then
 Option.bind (zix a0.Home.Stream a1) fun v2 =>
 if v2.2 = 0 then
 some (⟨(⟨a0.Home.Skeen, v2.1, (a0.Home.Last.set v1.1.toNat (wr .i64 (v1.2.1 + 1)))⟩ : THome)⟩ : Tgroup_home)
 else
 some (⟨(⟨a0.Home.Skeen, a0.Home.Stream, (a0.Home.Last.set v1.1.toNat (wr .i64 (v1.2.1 + 1)))⟩ : THome)⟩ : Tgroup_home)
 else none
 else none
def zbc : List TMessage -> (List TTopic) -> (List (List Int)) -> (List TTook) -> Option ((List TTopic) × (List (List Int)) × (List TTook))
 | [], l4, l5, l6 =>
  some (l4, l5, l6)
 | y1 :: rest1, l4, l5, l6 =>
  Option.bind (α := (List TTopic) × (List (List Int)) × (List TTook)) (Option.bind (zfq (⟨l4, l5⟩ : TStream) (y1)) fun v1 =>
  if ¬ (v1.2.2 = 0) then
  some (l4, l5, l6)
  else
  if l6.length + [(⟨y1.Id, y1.Topic, v1.2.1⟩ : TTook)].length < 1000000 then
  some (v1.1.Topics, v1.1.Commits, (l6 ++ [(⟨y1.Id, y1.Topic, v1.2.1⟩ : TTook)]))
  else none) fun (l7, l8, l9) =>
  zbc rest1 l7 l8 l9
theorem zi5 (l4 : List TTopic) (l5 : List (List Int)) (l6 : List TTook) : zbc [] l4 l5 l6 =
  (some (l4, l5, l6) : Option ((List TTopic) × (List (List Int)) × (List TTook))) := rfl
theorem zfl (y1 : TMessage) (rest1 : List TMessage) (l4 : List TTopic) (l5 : List (List Int)) (l6 : List TTook) : zbc (y1 :: rest1) l4 l5 l6 =
  (Option.bind (α := (List TTopic) × (List (List Int)) × (List TTook)) (Option.bind (zfq (⟨l4, l5⟩ : TStream) (y1)) fun v1 =>
  if ¬ (v1.2.2 = 0) then
  some (l4, l5, l6)
  else
  if l6.length + [(⟨y1.Id, y1.Topic, v1.2.1⟩ : TTook)].length < 1000000 then
  some (v1.1.Topics, v1.1.Commits, (l6 ++ [(⟨y1.Id, y1.Topic, v1.2.1⟩ : TTook)]))
  else none) fun (l7, l8, l9) =>
  zbc rest1 l7 l8 l9 : Option ((List TTopic) × (List (List Int)) × (List TTook))) := rfl
def zdr (a0 : Tgroup_home) (a1 : List TMessage) : Option ((List TTook) × Tgroup_home) :=
 Option.bind (α := (List TTopic) × (List (List Int)) × (List TTook)) (zbc a1 a0.Home.Stream.Topics a0.Home.Stream.Commits []) fun (l1, l2, l3) =>
 some (l3, (⟨(⟨a0.Home.Skeen, (⟨l1, l2⟩ : TStream), a0.Home.Last⟩ : THome)⟩ : Tgroup_home))
def zfr (a0 : Tgroup_home) (a1 : Int) (a2 : TCommand) : Option ((List TTook) × (Option (List UInt8 × Int)) × Tgroup_home) :=
 if a2.Kind >= 4 then
 Option.bind (zc9 a0 a2) fun v1 =>
 some ([], none, v1)
 else
 Option.bind (zf5 a0.Home.Skeen a1 a2) fun v2 =>
 if ¬ (v2.2.2 = 0) then
 Option.bind (zdw [97, 112, 112, 108, 121] v2.2.2) fun v3 =>
 (match v3 with
 | none =>
 some ([], none, a0)
 | some er1 =>
 some ([], (some er1), a0))
 else
 Option.bind (zdr (⟨(⟨v2.1, a0.Home.Stream, a0.Home.Last⟩ : THome)⟩ : Tgroup_home) v2.2.1) fun v4 =>
 some (v4.1, none, v4.2)
def zi7 (a0 : THome) (a1 : Int) (a2 : TCommand) : Option (THome × (List TTook) × (Option (List UInt8 × Int))) :=
 Option.bind (zei a0) fun v1 =>
 Option.bind (zdw [99, 104, 101, 99, 107] v1) fun v2 =>
 (match v2 with
 | none =>
 Option.bind (zi6 a1) fun v3 =>
 (match v3 with
 | none =>
 Option.bind (zbp a2) fun v4 =>
 Option.bind (zdw [99, 111, 109, 109, 97, 110, 100] v4) fun v5 =>
 (match v5 with
 | none =>
 Option.bind (zhp a0) fun v6 =>
 Option.bind (zfr (⟨v6⟩ : Tgroup_home) a1 a2) fun v7 =>
 (match v7.2.1 with
 | none =>
 some (v7.2.2.Home, v7.1, none)
 | some er4 =>
 some ((⟨(⟨0, [], []⟩ : TSkeen), (⟨[], []⟩ : TStream), []⟩ : THome), [], (some er4)))
 | some er3 =>
 some ((⟨(⟨0, [], []⟩ : TSkeen), (⟨[], []⟩ : TStream), []⟩ : THome), [], (some er3)))
 | some er2 =>
 some ((⟨(⟨0, [], []⟩ : TSkeen), (⟨[], []⟩ : TStream), []⟩ : THome), [], (some er2)))
 | some er1 =>
 some ((⟨(⟨0, [], []⟩ : TSkeen), (⟨[], []⟩ : TStream), []⟩ : THome), [], (some er1)))
def zde (a0 : THome) (a1 : Int) (a2 : TCommand) : Option (THome × (List TTook) × Int) :=
 Option.bind (zi7 a0 a1 a2) fun v1 =>
 (match v1.2.2 with
 | none =>
 Option.bind (zjo none) fun v2 =>
 some (v1.1, v1.2.1, v2)
 | some er1 =>
 Option.bind (zjo (some er1)) fun v3 =>
 some (v1.1, v1.2.1, v3))
end Go.Proofs
end

/- Texts of the proof. -/
import Derived.Scope
import Derived.KernelRfl
import Derived.Test.YtkananhhhkkpkaaOrderFinalPe
section
namespace Go.Tm
open Go.RowKit Go.WideShapes
inductive Ex where
 | normal
 | exit (id : Nat)
 | ret
def Ex.to : Ex -> Exit
 | .normal => .normal
 | .exit i => .exit i
 | .ret => .ret
def blkIds : Blk -> List Nat
 | .box cs => D.idsL cs
 | .arr _ _ p items => bif p then [] else D.idsL items
 | .map es => D.idsL (es.map (·.1)) ++ D.idsL (es.map (·.2))
def hasN (l : List Nat) (i : Nat) : Bool := l.any (Nat.beq i)
def reach (h : List (Nat × Blk)) : Nat -> List Nat -> List (Nat × Blk) -> List (Nat × Blk)
 | 0, _, acc => acc
 | _ + 1, [], acc => acc
 | n + 1, i :: r, acc => match getL acc i with
  | some _ => reach h n r acc
  | none => match getL h i with
   | none => reach h n r acc
   | some b => reach h n (blkIds b ++ r) ((i, b) :: acc)
def zem (h : List (Nat × Blk)) (nx n : Nat) (l : List Nat) : List (Nat × Blk) := (reach h n l []).filter fun x => Nat.blt x.1 nx
def addW (base : Nat) (ws : List Nat) : List (Nat × Option Blk) -> List Nat
 | [] => ws
 | (i, _) :: r => bif Nat.blt i base && !hasN ws i then addW base (i :: ws) r else addW base ws r
def callO (call : FuncId -> List D -> List (Nat × Blk) -> Nat -> Option Out) (c : Call) (f : Operand) (st : St) : Option Out :=
 match opd true (getR st.vars) f with
 | (.fn (.func K) caps, true) => match opds true (getR st.vars) c.args.toList with
  | (ds, true) => call K (ds ++ caps) st.heap st.nx
  | _ => none
 | _ => none
def aopX (tab : Nat -> TI) (o : Oper) (st : St) : Option Out :=
 match aopS tab true o.op st.nx true (getR st.vars) (getL st.heap) with
 | some out => bif out.vc && nwB st.nx out.nw then some out else none
 | none => none
def coreX (call : FuncId -> List D -> List (Nat × Blk) -> Nat -> Option Out) (tab : Nat -> TI) (o : Oper) (st : St) : Option Out :=
 match o.op with
 | .call c => match c.callee with
  | .value f => callO call c f st
  | _ => aopX tab o st
 | _ => aopX tab o st
def stepX (call : FuncId -> List D -> List (Nat × Blk) -> Nat -> Option Out) (tab : Nat -> TI) (ops : List Oper) (o : Oper) (st : St) : Option Out :=
 match o.guard with
 | none => coreX call tab o st
 | some (j, want) => match dstAt ops j with
  | none => none
  | some t => match gval want (getR st.vars t) with
   | some true => match coreX call tab o st with
    | some out => some { out with d := .when true out.d }
    | none => none
   | some false => some { d := .when false .undef, vc := true }
   | none => none
def zmx (call : FuncId -> List D -> List (Nat × Blk) -> Nat -> Option Out) (tab : Nat -> TI) (base : Nat) (dr : Bool) (ops : List Oper) : List Oper -> St -> List Nat -> List FP -> Option (St × List Nat × List FP)
 | [], st, ws, fps => some (st, ws, fps)
 | o :: l, st, ws, fps => match stepX call tab ops o st with
  | some out => zmx call tab base dr ops l (st.app o.dst out) (addW base ws out.eff) (bif dr then fps ++ [fpOf o ⟨getR st.vars, getL st.heap, fun _ => true⟩ out] else fps)
  | none => none
def schedP (pairs : List (Nat × Nat)) (fps : List FP) : Bool := pairs.all fun x => okFP ((fps[x.1]?).getD zi6) ((fps[x.2]?).getD zi6)
def runC (call : FuncId -> List D -> List (Nat × Blk) -> Nat -> Option Out) (tab : Nat -> TI) (pt : Nat -> List (Nat × Nat)) (base : Nat) : Nat -> Code -> St -> List Nat -> Option (Ex × St × List Nat)
 | 0, _, _, _ => none
 | n + 1, c, st, ws => match c with
  | .skip => some (.normal, st, ws)
  | .region id ops draw => match zmx call tab base draw ops.toList ops.toList st ws [] with
   | some (st', ws', fps) => bif draw then (bif schedP (pt id) fps then some (.normal, st', ws') else none) else some (.normal, st', ws')
   | none => none
  | .seq a b => match runC call tab pt base n a st ws with
   | some (.normal, st', ws') => runC call tab pt base n b st' ws'
   | r => r
  | .cond c a b => match ev (getR st.vars) c with
   | .bool true => runC call tab pt base n a st ws
   | .bool false => runC call tab pt base n b st ws
   | _ => none
  | .block id b => match runC call tab pt base n b st ws with
   | some (.exit i, st', ws') => bif Nat.beq i id then some (.normal, st', ws') else some (.exit i, st', ws')
   | r => r
  | .loop b => match runC call tab pt base n b st ws with
   | some (.normal, st', ws') => runC call tab pt base n (.loop b) st' ws'
   | r => r
  | .exit id => some (.exit id, st, ws)
  | .ret => some (.ret, st, ws)
  | .label _ => some (.normal, st, ws)
  | .scope b => runC call tab pt base n b st ws
  | _ => none
def finX (H : List (Nat × Blk)) (nx : Nat) (st : St) (ws : List Nat) (LF : Nat) (r : D) : Out :=
 {d := r, vc := true,
  eff := (ws.filter fun i => hasN (H.map (·.1)) i).map (fun i => (i, getL st.heap i)) ++ ((reach st.heap LF (r.ids ++ ws) []).filter fun x => Nat.ble nx x.1 && Nat.blt x.1 st.nx).map (fun x => (x.1, some x.2)),
  nw := (nx, st.nx), met := H.map (·.1) }
def runF (ft : Nat -> Option Func) (pt : Nat -> Nat -> List (Nat × Nat)) (tab : Nat -> TI) (LF : Nat) (call : FuncId -> List D -> List (Nat × Blk) -> Nat -> Option Out) (K : FuncId) (args : List D) (heap : List (Nat × Blk)) (nx : Nat) : Option Out :=
 match ft K with
  | none => none
  | some fn => match fn.body with
   | none => none
   | some c => bif Nat.ble args.length fn.ntmps then
    match runC call tab (pt K) nx LF c ⟨zcw 0 args, zem heap nx LF (D.idsL args), nx⟩ [] with
    | some (.normal, st, ws) => match resL tab st fn.results.toList with
     | some (ds, true) => some (finX (zem heap nx LF (D.idsL args)) nx st ws LF (resT ds))
     | _ => none
    | some (.ret, st, ws) => match resL tab st fn.results.toList with
     | some (ds, true) => some (finX (zem heap nx LF (D.idsL args)) nx st ws LF (resT ds))
     | _ => none
    | _ => none
    else none
def cover (ops : Array Oper) (pairs : List (Nat × Nat)) : Bool :=
 (List.range ops.size).all fun i => (List.range i).all fun j => anc ops ops.size i j || pairs.any fun x => Nat.beq x.1 j && Nat.beq x.2 i
def zg0 (n : Nat) (pt : Nat -> List (Nat × Nat)) : Code -> Bool
 | .skip => true
 | .region id ops draw => regOk n ops draw && (!draw || cover ops (pt id))
 | .seq a b => zg0 n pt a && zg0 n pt b
 | .cond c a b => zd7 c && zg0 n pt a && zg0 n pt b
 | .block _ b => zg0 n pt b
 | .loop b => zg0 n pt b
 | .exit _ => true
 | .ret => true
 | .label _ => true
 | .scope b => zg0 n pt b
 | _ => false
theorem cover_sched {ops : Array Oper} {pairs : List (Nat × Nat)} {fps : List FP} (h : cover ops pairs = true) (hs : schedP pairs fps = true) : zkd ops (fun i => (fps[i]?).getD zi6) = true := by
 unfold zkd
 refine List.all_eq_true.2 fun i hi => List.all_eq_true.2 fun j hj => ?_
 have := List.all_eq_true.1 (List.all_eq_true.1 h i hi) j hj
 simp only [Bool.or_eq_true] at this ⊢
 rcases this with h1 | h1
 ·exact .inr h1
 ·left
  obtain ⟨x, hx, hb⟩ := List.any_eq_true.1 h1
  simp only [Bool.and_eq_true] at hb
  have := List.all_eq_true.1 hs x hx
  rwa [Nat.eq_of_beq_eq_true hb.1, Nat.eq_of_beq_eq_true hb.2] at this
theorem hasN_iff {l : List Nat} {i : Nat} : hasN l i = true ↔ i ∈ l := by
 unfold hasN
 rw [List.any_eq_true]
 constructor
 ·rintro ⟨x, hx, hb⟩; rw [Nat.eq_of_beq_eq_true hb]; exact hx
 ·intro h; exact ⟨i, h, Nat.beq_refl i⟩
theorem addW_spec (base : Nat) : ∀ (eff : List (Nat × Option Blk)) (ws : List Nat) (i : Nat), i < base -> i ∉ addW base ws eff -> i ∉ ws /\ i ∉ eff.map (·.1)
 | [], ws, i, _, h => ⟨h, by simp⟩
 | (j, b) :: r, ws, i, hi, h => by
  simp only [addW] at h
  cases hc : (Nat.blt j base && !hasN ws j)
  ·rw [hc] at h
   obtain ⟨h1, h2⟩ := addW_spec base r ws i hi h
   refine ⟨h1, ?_⟩
   simp only [List.map_cons, List.mem_cons, not_or]
   refine ⟨?_, h2⟩
   rintro rfl
   simp only [Bool.and_eq_false_iff, Bool.not_eq_false'] at hc
   rcases hc with hc | hc
   ·have : Nat.blt i base = true := Nat.ble_eq_true_of_le hi
    rw [hc] at this; cases this
   ·exact h1 (hasN_iff.1 hc)
  ·rw [hc] at h
   obtain ⟨h1, h2⟩ := addW_spec base r (j :: ws) i hi h
   simp only [List.mem_cons, not_or] at h1
   exact ⟨h1.2, by simp only [List.map_cons, List.mem_cons, not_or]; exact ⟨h1.1, h2⟩⟩
theorem zjm {h : List (Nat × Blk)} : ∀ (n : Nat) (l : List Nat) (acc : List (Nat × Blk)), (∀ x ∈ acc, getL h x.1 = some x.2) -> ∀ x ∈ reach h n l acc, getL h x.1 = some x.2
 | 0, l, acc, ha => by simpa only [reach] using ha
 | n + 1, [], acc, ha => by simpa only [reach] using ha
 | n + 1, i :: r, acc, ha => by
  simp only [reach]
  split
  ·exact zjm n r acc ha
  ·split
   ·exact zjm n r acc ha
   ·rename_i b hb
    refine zjm n _ _ ?_
    intro x hx
    rcases List.mem_cons.1 hx with rfl | hx
    ·exact hb
    ·exact ha x hx
theorem zju {α : Type} {l : List (Nat × α)} {i : Nat} {x : α} (h : getL l i = some x) : (i, x) ∈ l := by
 induction l with
 | nil => cases h
 | cons y l ih =>
  obtain ⟨a, z⟩ := y
  simp only [getL] at h
  cases hb : Nat.beq a i
  ·rw [hb] at h; exact List.mem_cons_of_mem _ (ih h)
  ·rw [hb] at h
   cases h
   rw [Nat.eq_of_beq_eq_true hb]; simp
def zdb (P : Program) (call : FuncId -> List D -> List (Nat × Blk) -> Nat -> Option Out) : Prop :=
 ∀ K args heap nx out, call K args heap nx = some out -> ∃ H, CallH P K args H out.d out.eff out.nw /\ (∀ id b, getL H id = some b -> getL heap id = some b) /\ (∀ x ∈ out.eff, x.1 ∈ H.map (·.1) \/ out.nw.1 <= x.1 /\ x.1 < out.nw.2) /\ out.met = H.map (·.1) /\ out.vc = true /\ out.nw.1 = nx /\ nx <= out.nw.2
section
variable {P : Program} {tab : Nat -> TI} {call : FuncId -> List D -> List (Nat × Blk) -> Nat -> Option Out}
theorem app_nx2 {st : St} {dst : Option Nat} {out : Out} (h1 : out.nw.1 = st.nx) (h2 : st.nx <= out.nw.2) : (st.app dst out).nx = out.nw.2 := by
 unfold St.app
 cases hb : Nat.blt out.nw.1 out.nw.2
 ·have : ¬ out.nw.1 < out.nw.2 := by
   intro h
   have : Nat.blt out.nw.1 out.nw.2 = true := Nat.ble_eq_true_of_le h
   rw [hb] at this; cases this
  simp only [cond_false]
  omega
 ·simp only [cond_true]
theorem coreX_sound (hc : zdb P call) {o : Oper} {st : St} {out : Out} (h : coreX call tab o st = some out) :
  (out.nw = (0, 0) \/ out.nw.1 = st.nx /\ st.nx <= out.nw.2) /\ out.vc = true /\ ∀ lim, out.nw.2 <= lim -> Core P tab true o (st.fs lim) out := by
 have plain : aopX tab o st = some out -> (out.nw = (0, 0) \/ out.nw.1 = st.nx /\ st.nx <= out.nw.2) /\ out.vc = true /\ ∀ lim, out.nw.2 <= lim -> ∃ nid, aop tab true o.op nid true (st.fs lim).rd (st.fs lim).hp = some out /\ out.vc = true /\ (out.nw = (nid, nid + 1) -> (st.fs lim).nu nid = true) := by
  intro h
  unfold aopX at h
  split at h
  ·rename_i out' ha
   rw [aopS_eq] at ha
   cases hb : (out'.vc && nwB st.nx out'.nw)
   ·rw [hb] at h; cases h
   ·rw [hb] at h
    cases h
    simp only [Bool.and_eq_true] at hb
    refine ⟨?_, hb.1, fun lim hlim => ⟨st.nx, ha, hb.1, fun e => ?_⟩⟩
    ·rcases nwB_spec hb.2 with e | e
     ·exact .inl e
     ·right; rw [e]; exact ⟨rfl, Nat.le_succ _⟩
    ·rw [e] at hlim
     simp only [St.fs, Bool.and_eq_true, decide_eq_true_eq]
     have hlim : st.nx + 1 <= lim := hlim
     omega
  ·cases h
 unfold coreX at h
 unfold Core
 split at h
 ·rename_i c ho
  simp only [ho]
  split at h
  ·rename_i f hcal
   simp only [hcal]
   unfold callO at h
   split at h
   ·rename_i K caps hopd
    split at h
    ·rename_i ds hopds
     obtain ⟨H, g1, g2, g3, g4, g5, g6, g7⟩ := hc _ _ _ _ _ h
     refine ⟨.inr ⟨g6, g7⟩, g5, fun lim hlim => ?_⟩
     refine ⟨K, caps, true, ds, true, out.d, hopd, rfl, hopds, rfl, .inr (.inl ⟨H, out.eff, out.nw, g1, g2, fun id k1 k2 => ?_, g3, ?_⟩)⟩
     ·simp only [St.fs, Bool.and_eq_true, decide_eq_true_eq]
      omega
     ·cases out; simp only at g4 g5; rw [g4, g5]
    ·cases h
   ·cases h
  ·rename_i hno
   have := plain h
   rw [ho] at this
   refine ⟨this.1, this.2.1, fun lim hlim => ?_⟩
   split
   ·rename_i f hcal; exact absurd hcal (hno f)
   ·exact this.2.2 lim hlim
 ·rename_i hno
  have := plain h
  refine ⟨this.1, this.2.1, fun lim hlim => ?_⟩
  split
  ·rename_i c hop; exact absurd hop (hno c)
  ·exact this.2.2 lim hlim
theorem stepX_sound (hc : zdb P call) {ops : Array Oper} {o : Oper} {st : St} {out : Out} (h : stepX call tab ops.toList o st = some out) :
  st.nx <= (st.app o.dst out).nx /\ ∀ lim, (st.app o.dst out).nx <= lim -> Fires P tab true ops o (st.fs lim) out /\ ∀ id, out.nw.1 <= id -> id < out.nw.2 -> st.nx <= id := by
 have hn : ∀ (out : Out), (out.nw = (0, 0) \/ out.nw.1 = st.nx /\ st.nx <= out.nw.2) -> st.nx <= (st.app o.dst out).nx /\ out.nw.2 <= (st.app o.dst out).nx /\ ∀ id, out.nw.1 <= id -> id < out.nw.2 -> st.nx <= id := by
  intro out h
  rcases h with h | ⟨h1, h2⟩
  ·refine ⟨app_nx (.inl h), by rw [h]; exact Nat.zero_le _, fun id k1 k2 => ?_⟩
   rw [h] at k2
   exact absurd k2 (Nat.not_lt_zero _)
  ·rw [app_nx2 h1 h2]
   exact ⟨h2, Nat.le_refl _, fun id k1 _ => by omega⟩
 unfold stepX at h
 unfold Fires
 split at h
 ·rename_i hg
  simp only [hg]
  obtain ⟨g1, g2, g3⟩ := coreX_sound hc h
  obtain ⟨k1, k2, k3⟩ := hn out g1
  exact ⟨k1, fun lim hlim => ⟨g3 lim (Nat.le_trans k2 hlim), k3⟩⟩
 ·rename_i j want hg
  simp only [hg]
  split at h
  ·cases h
  ·rename_i t ht
   have ht' : gslot ops j = some t := by
    rw [zlq] at ht
    simpa [gslot] using ht
   split at h
   ·rename_i hgv
    split at h
    ·rename_i out' ho'
     cases h
     obtain ⟨g1, g2, g3⟩ := coreX_sound hc ho'
     obtain ⟨k1, k2, k3⟩ := hn { out' with d := .when true out'.d } g1
     refine ⟨k1, fun lim hlim => ⟨⟨t, true, out', ht', hgv, fun _ => g3 lim (Nat.le_trans k2 hlim), ?_⟩, k3⟩⟩
     cases out'
     simp only at g2
     simp only [cond_true, g2]
    ·cases h
   ·rename_i hgv
    cases h
    refine ⟨Nat.le_refl _, fun lim hlim => ⟨⟨t, false, { d := .undef, vc := true }, ht', hgv, (fun h => by cases h), rfl⟩, fun id k1 k2 => ?_⟩⟩
    exact absurd k2 (Nat.not_lt_zero _)
   ·cases h
theorem zmw (hc : zdb P call) {base : Nat} {dr : Bool} {ops : Array Oper} : ∀ (l : List Oper) (st st' : St) (ws ws' : List Nat) (fps fps' : List FP), zmx call tab base dr ops.toList l st ws fps = some (st', ws', fps') ->
  st.nx <= st'.nx /\ (∀ id, id < base -> id ∉ ws' -> id ∉ ws /\ getL st'.heap id = getL st.heap id) /\ ∀ lim, st'.nx <= lim -> ∃ os, Chain P tab true lim ops l st os st' /\ (dr = true -> fps' = fps ++ os.map (·.2))
 | [], st, st', ws, ws', fps, fps', h => by
  simp only [zmx, Option.some.injEq, Prod.mk.injEq] at h
  obtain ⟨rfl, rfl, rfl⟩ := h
  exact ⟨Nat.le_refl _, fun id _ h => ⟨h, rfl⟩, fun lim _ => ⟨[], .nil _, fun _ => by simp⟩⟩
 | o :: l, st, st', ws, ws', fps, fps', h => by
  simp only [zmx] at h
  split at h
  ·rename_i out hs
   obtain ⟨h1, h2⟩ := stepX_sound hc hs
   obtain ⟨h3, h4, h5⟩ := zmw hc l _ _ _ _ _ _ h
   refine ⟨Nat.le_trans h1 h3, fun id hid hw => ?_, fun lim hlim => ?_⟩
   ·obtain ⟨k1, k2⟩ := h4 id hid hw
    obtain ⟨k3, k4⟩ := addW_spec base _ _ id hid k1
    refine ⟨k3, ?_⟩
    rw [k2]
    simp only [St.app, zjv]
    exact effH_ne k4
   ·obtain ⟨os, k1, k2⟩ := h5 lim hlim
    obtain ⟨f1, f2⟩ := h2 lim (Nat.le_trans h3 hlim)
    refine ⟨(out, fpOf o (st.fs lim) out) :: os, .cons f1 f2 k1, fun hd => ?_⟩
    subst hd
    rw [k2 rfl]
    simp [fpOf_fs o st lim]
  ·cases h
theorem Ok.region0 (hT : TabOk P tab) (hm : P.follows .mixedOrders = true) {own : Bool} {lim n id : Nat} {ops : Array Oper} {draw : Bool} {st : St} {Q : Exit -> St -> Prop} (hok : regOk n ops draw = true) (h : RegA P tab own lim ops draw st (Q .normal)) : Ok P lim n (.region id ops draw) st Q := by
 simp only [regOk, Bool.and_eq_true, Bool.or_eq_true, Bool.not_eq_true'] at hok
 intro E F a w g hF hR
 refine zn1 hT hm hok.1 (fun hd => ?_) h hF hR fun st' F' a' w' g' h1 h2 h3 => ⟨st', F', g', h1, h2, h3⟩
 rcases hok.2 with h | h
 ·rw [hd] at h; cases h
 ·exact h
theorem Ok.label {lim n l : Nat} {st : St} {Q : Exit -> St -> Prop} (h : Q .normal st) : Ok P lim n (.label l) st Q := fun _ F _ _ g hF hR => wp_label ⟨st, F, g, h, hF, hR⟩
theorem Ok.scope {lim n : Nat} {c : Code} {st : St} {Q : Exit -> St -> Prop} (h : Ok P lim n c st fun e s => (∀ l, e ≠ .goto l) /\ Q e s) : Ok P lim n (.scope c) st Q := by
 intro E F a w g hF hR
 refine wp_scope_straight (wp_mono (h E F a w g hF hR) ?_)
 rintro e a' w' ⟨st', F', g', ⟨hg, hq⟩, h2, h3⟩
 cases e with
 | goto l => exact absurd rfl (hg l)
 | _ => exact ⟨st', F', g', hq, h2, h3⟩
def OkL (P : Program) (lim n : Nat) (c : Code) (st : St) (Q : Exit -> St -> Prop) : Prop :=
 ∀ (E : En) (F : FrS) (a : Act) (w : World) (g : Gh), F.on lim st -> Rel E n F a w g -> ∀ b k cs, ∃ e a' w', (∃ st' F' g', Q e st' /\ F'.on lim st' /\ Rel E n F' a' w' g') /\ Arrives P (lone (b.at a (.code c :: .inLoop c :: k)) cs w) b k cs e a' w'
theorem OkL.to {lim n : Nat} {c : Code} {st : St} {Q : Exit -> St -> Prop} (h : OkL P lim n c st Q) : Ok P lim n (.loop c) st Q := by
 intro E F a w g hF hR b k cs
 obtain ⟨e, a', w', hq, harr⟩ := h E F a w g hF hR b k cs
 exact ⟨e, a', w', hq, .of_steps (.one step_loop) harr⟩
theorem OkL.round {lim n : Nat} {c : Code} {st : St} {Q : Exit -> St -> Prop} (h : Ok P lim n c st fun e s => match e with | .normal => OkL P lim n c s Q | e => Q e s) : OkL P lim n c st Q := by
 intro E F a w g hF hR b k cs
 obtain ⟨e, a₁, w₁, ⟨st', F', g', hq, hF', hrel⟩, harr⟩ := h E F a w g hF hR b (.inLoop c :: k) cs
 cases e with
 | normal =>
  obtain ⟨e₂, a₂, w₂, hq₂, harr₂⟩ := hq E F' a₁ w₁ g' hF' hrel b k cs
  exact ⟨e₂, a₂, w₂, hq₂, .of_steps (Steps.trans harr (.one step_inLoop)) harr₂⟩
 | exit id => exact ⟨_, a₁, w₁, ⟨st', F', g', hq, hF', hrel⟩, .pass (x := .inLoop c) rfl (fun _ _ => .inl (by simp)) harr⟩
 | goto l => exact ⟨_, a₁, w₁, ⟨st', F', g', hq, hF', hrel⟩, .pass (x := .inLoop c) rfl (fun _ _ => .inl (by simp)) harr⟩
 | ret => exact ⟨_, a₁, w₁, ⟨st', F', g', hq, hF', hrel⟩, .pass (x := .inLoop c) rfl (fun _ _ => .inl (by simp)) harr⟩
 | panic ch => exact ⟨_, a₁, w₁, ⟨st', F', g', hq, hF', hrel⟩, .pass (x := .inLoop c) rfl (fun _ _ => .inl (by simp)) harr⟩
 | outgrown => exact ⟨_, a₁, w₁, ⟨st', F', g', hq, hF', hrel⟩, .pass (x := .inLoop c) rfl (fun _ _ => .inl (by simp)) harr⟩
def OkC (P : Program) (lim n : Nat) (c : Code) (st : St) (Q : Exit -> St -> Prop) : Prop := Ok P lim n c st Q /\ ∀ b, c = .loop b -> OkL P lim n b st Q
theorem zdl (hc : zdb P call) (hT : TabOk P tab) (hm : P.follows .mixedOrders = true) {pt : Nat -> List (Nat × Nat)} {base ntm : Nat} : ∀ (n : Nat) (c : Code) (st st' : St) (ws ws' : List Nat) (e : Ex), zg0 ntm pt c = true -> runC call tab pt base n c st ws = some (e, st', ws') ->
  st.nx <= st'.nx /\ (∀ id, id < base -> id ∉ ws' -> id ∉ ws /\ getL st'.heap id = getL st.heap id) /\ ∀ lim, st'.nx <= lim -> OkC P lim ntm c st fun e' s => e' = e.to /\ s = st'
 | 0, c, st, st', ws, ws', e, _, h => by simp only [runC, reduceCtorEq] at h
 | n + 1, c, st, st', ws, ws', e, hk, h => by
  have triv : ∀ id, id < base -> id ∉ ws -> id ∉ ws /\ getL st.heap id = getL st.heap id := fun id _ h => ⟨h, rfl⟩
  cases c with
  | skip =>
   simp only [runC, Option.some.injEq, Prod.mk.injEq] at h
   obtain ⟨rfl, rfl, rfl⟩ := h
   exact ⟨Nat.le_refl _, triv, fun lim _ => ⟨.skip ⟨rfl, rfl⟩, nofun⟩⟩
  | exit id =>
   simp only [runC, Option.some.injEq, Prod.mk.injEq] at h
   obtain ⟨rfl, rfl, rfl⟩ := h
   exact ⟨Nat.le_refl _, triv, fun lim _ => ⟨.exit ⟨rfl, rfl⟩, nofun⟩⟩
  | ret =>
   simp only [runC, Option.some.injEq, Prod.mk.injEq] at h
   obtain ⟨rfl, rfl, rfl⟩ := h
   exact ⟨Nat.le_refl _, triv, fun lim _ => ⟨.ret ⟨rfl, rfl⟩, nofun⟩⟩
  | label l =>
   simp only [runC, Option.some.injEq, Prod.mk.injEq] at h
   obtain ⟨rfl, rfl, rfl⟩ := h
   exact ⟨Nat.le_refl _, triv, fun lim _ => ⟨.label ⟨rfl, rfl⟩, nofun⟩⟩
  | scope b =>
   simp only [zg0] at hk
   simp only [runC] at h
   obtain ⟨h1, h2, h3⟩ := zdl hc hT hm n b _ _ _ _ _ hk h
   refine ⟨h1, h2, fun lim hlim => ⟨.scope ((h3 lim hlim).1.mono ?_), nofun⟩⟩
   rintro e' s ⟨rfl, rfl⟩
   refine ⟨fun l => ?_, rfl, rfl⟩
   cases e <;> simp [Ex.to]
  | region id ops draw =>
   simp only [runC] at h
   simp only [zg0, Bool.and_eq_true, Bool.or_eq_true, Bool.not_eq_true'] at hk
   split at h
   ·rename_i st1 ws1 fps hr
    obtain ⟨h1, h2, h3⟩ := zmw hc _ _ _ _ _ _ _ hr
    cases draw with
    | false =>
     simp only [cond_false, Option.some.injEq, Prod.mk.injEq] at h
     obtain ⟨rfl, rfl, rfl⟩ := h
     refine ⟨h1, h2, fun lim hlim => ?_⟩
     obtain ⟨os, k1, _⟩ := h3 lim hlim
     exact ⟨.region0 (own := true) hT hm hk.1 ⟨os, st1, k1, nofun, rfl, rfl⟩, nofun⟩
    | true =>
     simp only [cond_true] at h
     cases hs : schedP (pt id) fps
     ·rw [hs] at h; cases h
     ·rw [hs] at h
      simp only [cond_true, Option.some.injEq, Prod.mk.injEq] at h
      obtain ⟨rfl, rfl, rfl⟩ := h
      refine ⟨h1, h2, fun lim hlim => ?_⟩
      obtain ⟨os, k1, k2⟩ := h3 lim hlim
      have hcov := hk.2.resolve_left (by simp)
      refine ⟨.region0 (own := true) hT hm hk.1 ⟨os, st1, k1, fun _ => ?_, rfl, rfl⟩, nofun⟩
      rw [<- k2 rfl]
      exact cover_sched hcov hs
   ·cases h
  | seq a b =>
   simp only [zg0, Bool.and_eq_true] at hk
   simp only [runC] at h
   split at h
   ·rename_i st1 ws1 hr
    obtain ⟨h1, h2, h3⟩ := zdl hc hT hm n a _ _ _ _ _ hk.1 hr
    obtain ⟨g1, g2, g3⟩ := zdl hc hT hm n b _ _ _ _ _ hk.2 h
    refine ⟨Nat.le_trans h1 g1, fun id hid hw => ?_, fun lim hlim => ?_⟩
    ·obtain ⟨k1, k2⟩ := g2 id hid hw
     obtain ⟨k3, k4⟩ := h2 id hid k1
     exact ⟨k3, k2.trans k4⟩
    ·refine ⟨.seq ((h3 lim (Nat.le_trans g1 hlim)).1.mono ?_), nofun⟩
     rintro e' s ⟨rfl, rfl⟩
     exact (g3 lim hlim).1
   ·rename_i hne
    obtain ⟨h1, h2, h3⟩ := zdl hc hT hm n a _ _ _ _ _ hk.1 h
    refine ⟨h1, h2, fun lim hlim => ⟨.seq ((h3 lim hlim).1.mono ?_), nofun⟩⟩
    rintro e' s ⟨rfl, rfl⟩
    cases e with
    | normal => exact absurd h (hne _ _)
    | exit i => exact ⟨rfl, rfl⟩
    | ret => exact ⟨rfl, rfl⟩
  | cond c a b =>
   simp only [zg0, Bool.and_eq_true] at hk
   simp only [runC] at h
   split at h
   ·rename_i hev
    obtain ⟨h1, h2, h3⟩ := zdl hc hT hm n a _ _ _ _ _ hk.1.2 h
    exact ⟨h1, h2, fun lim hlim => ⟨.cond hk.1.1 hev (fun _ => (h3 lim hlim).1) (fun h => by cases h), nofun⟩⟩
   ·rename_i hev
    obtain ⟨h1, h2, h3⟩ := zdl hc hT hm n b _ _ _ _ _ hk.2 h
    exact ⟨h1, h2, fun lim hlim => ⟨.cond hk.1.1 hev (fun h => by cases h) (fun _ => (h3 lim hlim).1), nofun⟩⟩
   ·cases h
  | block id b =>
   simp only [zg0] at hk
   simp only [runC] at h
   split at h
   ·rename_i i st1 ws1 hr
    obtain ⟨h1, h2, h3⟩ := zdl hc hT hm n b _ _ _ _ _ hk hr
    cases hb : Nat.beq i id
    ·rw [hb] at h
     simp only [cond_false, Option.some.injEq, Prod.mk.injEq] at h
     obtain ⟨rfl, rfl, rfl⟩ := h
     refine ⟨h1, h2, fun lim hlim => ⟨.block ((h3 lim hlim).1.mono ?_), nofun⟩⟩
     rintro e' s ⟨rfl, rfl⟩
     simp only [Ex.to, blockQ, hb, cond_false]
     exact ⟨trivial, trivial⟩
    ·rw [hb] at h
     simp only [cond_true, Option.some.injEq, Prod.mk.injEq] at h
     obtain ⟨rfl, rfl, rfl⟩ := h
     refine ⟨h1, h2, fun lim hlim => ⟨.block ((h3 lim hlim).1.mono ?_), nofun⟩⟩
     rintro e' s ⟨rfl, rfl⟩
     simp only [Ex.to, blockQ, hb, cond_true]
     exact ⟨trivial, trivial⟩
   ·rename_i hne
    obtain ⟨h1, h2, h3⟩ := zdl hc hT hm n b _ _ _ _ _ hk h
    refine ⟨h1, h2, fun lim hlim => ⟨.block ((h3 lim hlim).1.mono ?_), nofun⟩⟩
    rintro e' s ⟨rfl, rfl⟩
    cases e with
    | exit i => exact absurd h (hne _ _ _)
    | normal => exact ⟨rfl, rfl⟩
    | ret => exact ⟨rfl, rfl⟩
  | loop b =>
   have hk' := hk
   simp only [zg0] at hk
   simp only [runC] at h
   split at h
   ·rename_i st1 ws1 hr
    obtain ⟨h1, h2, h3⟩ := zdl hc hT hm n b _ _ _ _ _ hk hr
    obtain ⟨g1, g2, g3⟩ := zdl hc hT hm n (.loop b) _ _ _ _ _ hk' h
    refine ⟨Nat.le_trans h1 g1, fun id hid hw => ?_, fun lim hlim => ?_⟩
    ·obtain ⟨k1, k2⟩ := g2 id hid hw
     obtain ⟨k3, k4⟩ := h2 id hid k1
     exact ⟨k3, k2.trans k4⟩
    ·have hL : OkL P lim ntm b st (fun e' s => e' = e.to /\ s = st') := .round ((h3 lim (Nat.le_trans g1 hlim)).1.mono (by
      rintro e' s ⟨rfl, rfl⟩
      exact (g3 lim hlim).2 b rfl))
     exact ⟨hL.to, fun b' hb' => by cases hb'; exact hL⟩
   ·rename_i hne
    obtain ⟨h1, h2, h3⟩ := zdl hc hT hm n b _ _ _ _ _ hk h
    refine ⟨h1, h2, fun lim hlim => ?_⟩
    have hL : OkL P lim ntm b st (fun e' s => e' = e.to /\ s = st') := .round ((h3 lim hlim).1.mono (by
     rintro e' s ⟨rfl, rfl⟩
     cases e with
     | normal => exact absurd h (hne _ _)
     | exit i => exact ⟨rfl, rfl⟩
     | ret => exact ⟨rfl, rfl⟩))
    exact ⟨hL.to, fun b' hb' => by cases hb'; exact hL⟩
  | _ => simp only [zg0, Bool.false_eq_true] at hk
def FtOk (P : Program) (ft : Nat -> Option Func) (pt : Nat -> Nat -> List (Nat × Nat)) : Prop :=
 ∀ K fn, ft K = some fn -> P.funcs[K]? = some fn /\ fn.name ≠ "runtime.NumGoroutine" /\ ∀ c, fn.body = some c -> zg0 fn.ntmps (pt K) c = true
theorem runF_sound (hT : TabOk P tab) (hm : P.follows .mixedOrders = true) {ft : Nat -> Option Func} {pt : Nat -> Nat -> List (Nat × Nat)} (hft : FtOk P ft pt) {LF : Nat} (hc : zdb P call) : zdb P (runF ft pt tab LF call) := fun K args heap nx out h => by
  simp only [runF] at h
  split at h
  ·cases h
  ·rename_i fn hfn
   split at h
   ·cases h
   ·rename_i c hb
    obtain ⟨f1, f2, f3⟩ := hft K fn hfn
    cases hlen : Nat.ble args.length fn.ntmps
    ·rw [hlen] at h; cases h
    ·rw [hlen] at h
     simp only [cond_true] at h
     have hsub : ∀ id b, getL (zem heap nx LF (D.idsL args)) id = some b -> getL heap id = some b := fun id b hg => zjm LF (D.idsL args) [] (h := heap) (fun x hx => by cases hx) _ (List.mem_filter.1 (zju hg)).1
     have hlow : ∀ id b, getL (zem heap nx LF (D.idsL args)) id = some b -> id < nx := fun id b hg => Nat.le_of_ble_eq_true (List.mem_filter.1 (zju hg)).2
     have fin : ∀ (e : Ex) (st : St) (ws : List Nat), (e = .normal \/ e = .ret) -> runC call tab (pt K) nx LF c ⟨zcw 0 args, zem heap nx LF (D.idsL args), nx⟩ [] = some (e, st, ws) ->
       (match resL tab st fn.results.toList with | some (ds, true) => some (finX (zem heap nx LF (D.idsL args)) nx st ws LF (resT ds)) | _ => none) = some out ->
       ∃ H, CallH P K args H out.d out.eff out.nw /\ (∀ id b, getL H id = some b -> getL heap id = some b) /\ (∀ x ∈ out.eff, x.1 ∈ H.map (·.1) \/ out.nw.1 <= x.1 /\ x.1 < out.nw.2) /\ out.met = H.map (·.1) /\ out.vc = true /\ out.nw.1 = nx /\ nx <= out.nw.2 := by
      intro e st ws he hr h
      split at h
      ·rename_i ds hres
       cases h
       obtain ⟨h1, h2, h3⟩ := zdl hc hT hm LF c _ _ _ _ _ (f3 c hb) hr
       have hE : ∀ x ∈ (finX (zem heap nx LF (D.idsL args)) nx st ws LF (resT ds)).eff, x.1 ∈ (zem heap nx LF (D.idsL args)).map (·.1) \/ nx <= x.1 /\ x.1 < st.nx := by
        intro x hx
        simp only [finX, List.mem_append, List.mem_map, List.mem_filter, Bool.and_eq_true] at hx
        rcases hx with ⟨i, ⟨_, hi⟩, rfl⟩ | ⟨y, ⟨_, hy1, hy2⟩, rfl⟩
        ·exact .inl (hasN_iff.1 hi)
        ·exact .inr ⟨Nat.le_of_ble_eq_true hy1, Nat.le_of_ble_eq_true hy2⟩
       refine ⟨zem heap nx LF (D.idsL args), ?_, hsub, hE, rfl, rfl, rfl, h1⟩
       refine zky hT f1 hb f2 (Nat.le_of_ble_eq_true hlen) hE ?_
       refine (h3 st.nx (Nat.le_refl _)).1.mono ?_
       rintro e' s ⟨rfl, rfl⟩
       refine ⟨(he.imp (fun h => by rw [h]; rfl) (fun h => by rw [h]; rfl)), ds, hres, rfl, effL (zem heap nx LF (D.idsL args)) (finX (zem heap nx LF (D.idsL args)) nx s ws LF (resT ds)).eff, ?_, zjv _ _⟩
       intro i x hx
       rw [zjv] at hx
       unfold effH at hx
       cases hg : getL (finX (zem heap nx LF (D.idsL args)) nx s ws LF (resT ds)).eff i with
       | some ob =>
        rw [hg] at hx
        have hx : ob = some x := hx
        subst hx
        have := zju hg
        simp only [finX, List.mem_append, List.mem_map, List.mem_filter] at this
        rcases this with ⟨j, _, hj⟩ | ⟨y, ⟨hy, _⟩, hj⟩
        ·simp only [Prod.mk.injEq] at hj
         obtain ⟨rfl, hj⟩ := hj
         exact hj
        ·simp only [Prod.mk.injEq, Option.some.injEq] at hj
         obtain ⟨rfl, rfl⟩ := hj
         exact zjm LF _ [] (fun x hx => by cases hx) y hy
       | none =>
        rw [hg] at hx
        have hx : getL (zem heap nx LF (D.idsL args)) i = some x := hx
        have hin : i ∈ (zem heap nx LF (D.idsL args)).map (·.1) := zne hx
        have hnw : i ∉ ws := by
         intro hw
         have hfind : ∀ (l : List (Nat × Option Blk)), getL l i = none -> i ∉ l.map (·.1) := by
          intro l
          induction l with
          | nil => intro _ h; cases h
          | cons y l ih =>
           obtain ⟨q, z⟩ := y
           intro h h'
           simp only [getL] at h
           cases hbq : Nat.beq q i
           ·rw [hbq] at h
            simp only [List.map_cons, List.mem_cons] at h'
            rcases h' with h' | h'
            ·rw [h'] at hbq; simp at hbq
            ·exact ih h h'
           ·rw [hbq] at h; cases h
         refine hfind _ hg ?_
         simp only [finX, List.map_append, List.mem_append, List.map_map, List.mem_map, List.mem_filter]
         exact .inl ⟨i, ⟨hw, hasN_iff.2 hin⟩, rfl⟩
        rw [(h2 i (hlow i x hx) hnw).2]; exact hx
      ·cases h
     split at h
     ·rename_i st ws hr
      exact fin _ st ws (.inl rfl) hr h
     ·rename_i st ws hr
      exact fin _ st ws (.inr rfl) hr h
     ·cases h
end
end Go.Tm
end
section
namespace Go.Tm
open Go.RowKit Go.WideShapes
theorem zcc {α : Type} (f : α -> D) (l : List α) (i : Nat) (h : i < l.length) : nth (l.map f) i = f l[i] := by
 unfold nth; simp [h]
theorem zid (a b : Nat) : Nat.blt a b = decide (a < b) := by
 show Nat.ble (a + 1) b = _
 rw [Bool.eq_iff_iff]; simp [Nat.ble_eq]; omega
theorem zie (a b : Nat) : Nat.ble a b = decide (a <= b) := by
 rw [Bool.eq_iff_iff]; simp [Nat.ble_eq]
theorem zg9 (d : D) : mkZ 0 d = d := rfl
theorem zf0 (l : List D) : mkZL 0 l = l := rfl
def Comes (r : Option (St × Bool × List FP × List Oper)) (st' : St) (vc : Bool) (acc : List FP) (l : List Oper) : Prop :=
 ∀ q : St -> Bool -> List FP -> List Oper -> Prop, q st' vc acc l -> match r with | some (s, v, f, l) => q s v f l | none => False
theorem Comes.eq {r : Option (St × Bool × List FP × List Oper)} {st' : St} {vc : Bool} {acc : List FP} {l : List Oper} (h : Comes r st' vc acc l) : r = some (st', vc, acc, l) := by
 have := h (fun s v f k => (s, v, f, k) = (st', vc, acc, l)) rfl
 cases r with
 | none => exact this.elim
 | some x => exact congrArg some this
section
variable {P : Program} {tab : Nat -> TI} {lim n : Nat}
theorem Ok.plain {id : Nat} {ops : Array Oper} {st st' : St} {vc : Bool} {acc : List FP} {Q : Exit -> St -> Prop} (hT : TabOk P tab) (hm : P.follows .mixedOrders = true) (V : List Nat) (hok : regOk n ops false = true)
  (h : Comes (runE tab true false ops.toList ops.toList ⟨keep V st.vars, st.heap, st.nx⟩ true []) st' vc acc []) (hv : vc = true) (hlim : st'.nx <= lim) (hQ : Q .normal st') : Ok P lim n (.region id ops false) st Q :=
 Ok.region (own := true) hT hm V hok (WRun.E h.eq (.inr fun _ _ _ h => ⟨nofun, h.2⟩) hv hlim (.nil ⟨nofun, hQ⟩)).2
theorem Ok.drawn {id : Nat} {ops : Array Oper} {st st' : St} {vc : Bool} {acc : List FP} {Q : Exit -> St -> Prop} (hT : TabOk P tab) (hm : P.follows .mixedOrders = true) (V : List Nat) (hok : regOk n ops true = true)
  (h : Comes (runE tab true true ops.toList ops.toList ⟨keep V st.vars, st.heap, st.nx⟩ true []) st' vc acc []) (hs : zkd ops (fun i => (acc[i]?).getD zi6) = true) (hv : vc = true) (hlim : st'.nx <= lim) (hQ : Q .normal st') : Ok P lim n (.region id ops true) st Q :=
 Ok.region (own := true) hT hm V hok (WRun.E h.eq (.inl rfl) hv hlim (.nil ⟨fun _ => hs, hQ⟩)).2
theorem Ok.reg {id : Nat} {ops : Array Oper} {draw : Bool} {st : St} {Q : Exit -> St -> Prop} (hT : TabOk P tab) (hm : P.follows .mixedOrders = true) (V : List Nat) (hok : regOk n ops draw = true) (h : RegA P tab true lim ops draw ⟨keep V st.vars, st.heap, st.nx⟩ (Q .normal)) : Ok P lim n (.region id ops draw) st Q := Ok.region hT hm V hok h
theorem WRun.R {ops : Array Oper} {dr : Bool} {l l' : List Oper} {st st' : St} {acc acc' : List FP} {Q : St -> List FP -> Prop} {vc : Bool}
  (hdr : dr = true \/ ∀ st a b, Q st a -> Q st b) (h : Comes (runE tab true dr ops.toList l st true acc) st' vc acc' l') (hv : vc = true) (hlim : st'.nx <= lim) (hQ : WRun P tab true lim ops l' st' acc' Q) : WRun P tab true lim ops l st acc Q :=
 (WRun.E h.eq hdr hv hlim hQ).2
theorem pureNw {st : St} : ∀ id, ((0 : Nat), (0 : Nat)).1 <= id -> id < ((0 : Nat), (0 : Nat)).2 -> st.nx <= id := fun _ _ h => absurd h (Nat.not_lt_zero _)
def runK (tab : Nat -> TI) (own dr : Bool) (ops : List Oper) : Nat -> List Oper -> St -> Bool -> List FP -> Option (St × Bool × List FP × List Oper)
 | 0, l, st, vc, fps => some (st, vc, fps, l)
 | _ + 1, [], st, vc, fps => some (st, vc, fps, [])
 | n + 1, o :: l, st, vc, fps =>
  bif zex o then some (st, vc, fps, o :: l) else
  match stepE tab own ops o st with
  | some (out, v) => runK tab own dr ops n l (st.app o.dst out) (vc && v) (bif dr then fps ++ [fpOf o ⟨getR st.vars, getL st.heap, fun _ => true⟩ out] else fps)
  | none => none
theorem WRun.EN {ops : Array Oper} {dr : Bool} (k : Nat) {l l' : List Oper} {st st' : St} {acc acc' : List FP} {Q : St -> List FP -> Prop} {vc : Bool}
  (h : runK tab true dr ops.toList k l st true acc = some (st', vc, acc', l')) (hdr : dr = true \/ ∀ st a b, Q st a -> Q st b) (hv : vc = true) (hlim : st'.nx <= lim) (hQ : WRun P tab true lim ops l' st' acc' Q) : WRun P tab true lim ops l st acc Q := by
 have key : ∀ (k : Nat) (l : List Oper) (st : St) (v0 : Bool) (acc : List FP), runK tab true dr ops.toList k l st v0 acc = some (st', vc, acc', l') -> v0 = true /\ st.nx <= st'.nx /\ WRun P tab true lim ops l st acc Q := by
  intro k
  induction k with
  | zero =>
   intro l st v0 acc h
   simp only [runK, Option.some.injEq, Prod.mk.injEq] at h
   obtain ⟨rfl, rfl, rfl, rfl⟩ := h
   exact ⟨hv, Nat.le_refl _, hQ⟩
  | succ k ih =>
   intro l st v0 acc h
   cases l with
   | nil =>
    simp only [runK, Option.some.injEq, Prod.mk.injEq] at h
    obtain ⟨rfl, rfl, rfl, rfl⟩ := h
    exact ⟨hv, Nat.le_refl _, hQ⟩
   | cons o l =>
    simp only [runK] at h
    cases hc : zex o with
    | true =>
     rw [hc] at h
     simp only [cond_true, Option.some.injEq, Prod.mk.injEq] at h
     obtain ⟨rfl, rfl, rfl, rfl⟩ := h
     exact ⟨hv, Nat.le_refl _, hQ⟩
    | false =>
     rw [hc] at h
     simp only [cond_false] at h
     split at h
     ·rename_i out v hs
      obtain ⟨hvv, hnx, os, st2, hch, hq⟩ := ih _ _ _ _ h
      simp only [Bool.and_eq_true] at hvv
      obtain ⟨f1, f2⟩ := znn (P := P) (lim := lim) hc hs hvv.2 (Nat.le_trans hnx hlim)
      refine ⟨hvv.1, Nat.le_trans (app_nx (stepE_nx hs hvv.2)) hnx, (out, fpOf o (st.fs lim) out) :: os, st2, .cons f1 f2 hch, ?_⟩
      rcases hdr with hd | hd
      ·subst hd
       simp only [cond_true, fpOf_fs o st lim] at hq
       simpa using hq
      ·exact hd _ _ _ hq
     ·cases h
 exact (key k l st true acc h).2.2
theorem WRun.call {ops : Array Oper} {o : Oper} {l : List Oper} {st : St} {acc : List FP} {Q : St -> List FP -> Prop} {c : Call} {f : Operand} {K : FuncId} {caps ds args : List D} {r : D}
  (ho : o.op = .call c) (hc : c.callee = .value f) (hg : o.guard = none) (hf : opd true (getR st.vars) f = (.fn (.func K) caps, true)) (hds : opds true (getR st.vars) c.args.toList = (ds, true)) (hl : lends (getL st.heap) (ds ++ caps) = (args, true))
  (hK : CallP P K args r) (hQ : WRun P tab true lim ops l (st.app o.dst { d := r, vc := true }) (acc ++ [fpOf o (st.fs lim) { d := r, vc := true }]) Q) : WRun P tab true lim ops (o :: l) st acc Q := by
 obtain ⟨os, st', hch, hq⟩ := hQ
 refine ⟨_, st', .cons (out := { d := r, vc := true }) ?_ pureNw hch, by simpa using hq⟩
 unfold Fires
 simp only [hg]
 unfold Core
 simp only [ho, hc]
 have hl' : lends (st.fs lim).hp (ds ++ caps) = (args, true) := hl
 exact ⟨K, caps, true, ds, true, r, hf, rfl, hds, rfl, .inl ⟨by rw [hl'], by rw [hl']; exact hK, rfl⟩⟩
theorem WRun.gcall {ops : Array Oper} {o : Oper} {l : List Oper} {st : St} {acc : List FP} {Q : St -> List FP -> Prop} {c : Call} {f : Operand} {K : FuncId} {r : D} {j t : Nat} {want g : Bool}
  (ho : o.op = .call c) (hc : c.callee = .value f) (hg : o.guard = some (j, want)) (hj : dstAt ops.toList j = some t) (hgv : gval want (getR st.vars t) = some g)
  (h : g = true -> ∃ caps ds args, opd true (getR st.vars) f = (.fn (.func K) caps, true) /\ opds true (getR st.vars) c.args.toList = (ds, true) /\ lends (getL st.heap) (ds ++ caps) = (args, true) /\ CallP P K args r)
  (hQ : WRun P tab true lim ops l (st.app o.dst { d := .when g r, vc := true }) (acc ++ [fpOf o (st.fs lim) { d := .when g r, vc := true }]) Q) : WRun P tab true lim ops (o :: l) st acc Q := by
 obtain ⟨os, st', hch, hq⟩ := hQ
 refine ⟨_, st', .cons (out := { d := .when g r, vc := true }) ?_ pureNw hch, by simpa using hq⟩
 unfold Fires
 simp only [hg]
 refine ⟨t, g, { d := r, vc := true }, ?_, hgv, fun hgt => ?_, ?_⟩
 ·rw [zlq] at hj
  simpa [gslot] using hj
 ·obtain ⟨caps, ds, args, h1, h3, h5, h7⟩ := h hgt
  unfold Core
  simp only [ho, hc]
  have hl' : lends (st.fs lim).hp (ds ++ caps) = (args, true) := h5
  exact ⟨K, caps, true, ds, true, r, h1, rfl, h3, rfl, .inl ⟨by rw [hl'], by rw [hl']; exact h7, rfl⟩⟩
 ·cases g <;> rfl
theorem WRun.hcall {ops : Array Oper} {o : Oper} {l : List Oper} {st : St} {acc : List FP} {Q : St -> List FP -> Prop} {c : Call} {f : Operand} {K : FuncId} {caps ds : List D} {H : List (Nat × Blk)} {r : D} {eff : List (Nat × Option Blk)} {nw : Nat × Nat}
  (ho : o.op = .call c) (hc : c.callee = .value f) (hg : o.guard = none) (hf : opd true (getR st.vars) f = (.fn (.func K) caps, true)) (hds : opds true (getR st.vars) c.args.toList = (ds, true))
  (hK : CallH P K (ds ++ caps) H r eff nw) (hH : ∀ id b, getL H id = some b -> getL st.heap id = some b) (hE : ∀ x ∈ eff, x.1 ∈ H.map (·.1) \/ nw.1 <= x.1 /\ x.1 < nw.2) (hn : nw.1 = nw.2 \/ st.nx <= nw.1 /\ nw.2 <= lim)
  (hQ : WRun P tab true lim ops l (st.app o.dst { d := r, vc := true, eff := eff, nw := nw, met := H.map (·.1) }) (acc ++ [fpOf o (st.fs lim) { d := r, vc := true, eff := eff, nw := nw, met := H.map (·.1) }]) Q) : WRun P tab true lim ops (o :: l) st acc Q := by
 obtain ⟨os, st', hch, hq⟩ := hQ
 have hnn : ∀ id, nw.1 <= id -> id < nw.2 -> st.nx <= id /\ id < lim := by
  intro id h1 h2
  rcases hn with h | ⟨h3, h4⟩ <;> omega
 refine ⟨_, st', .cons (out := { d := r, vc := true, eff := eff, nw := nw, met := H.map (·.1) }) ?_ (fun id h1 h2 => (hnn id h1 h2).1) hch, by simpa using hq⟩
 unfold Fires
 simp only [hg]
 unfold Core
 simp only [ho, hc]
 refine ⟨K, caps, true, ds, true, r, hf, rfl, hds, rfl, .inr (.inl ⟨H, eff, nw, hK, hH, fun id h1 h2 => ?_, hE, rfl⟩)⟩
 have := hnn id h1 h2
 simp only [St.fs, Bool.and_eq_true, decide_eq_true_eq]
 exact this
theorem WRun.overs {ops : Array Oper} {o : Oper} {l : List Oper} {st : St} {acc : List FP} {Q : St -> List FP -> Prop} {c : Call} {f : Operand} {K : FuncId} {caps ds : List D} {i j : Nat}
  (ho : o.op = .call c) (hc : c.callee = .value f) (hg : o.guard = none) (hf : opd true (getR st.vars) f = (.fn (.func K) caps, true)) (hds : opds true (getR st.vars) c.args.toList = (ds, true))
  (hK : Overs P K) (hA : ApartD (getL st.heap) (ds ++ caps) i j)
  (hQ : WRun P tab true lim ops l (st.app o.dst { d := .bool false, vc := true, met := [i, j] }) (acc ++ [fpOf o (st.fs lim) { d := .bool false, vc := true, met := [i, j] }]) Q) : WRun P tab true lim ops (o :: l) st acc Q := by
 obtain ⟨os, st', hch, hq⟩ := hQ
 refine ⟨_, st', .cons (out := { d := .bool false, vc := true, met := [i, j] }) ?_ pureNw hch, by simpa using hq⟩
 unfold Fires
 simp only [hg]
 unfold Core
 simp only [ho, hc]
 exact ⟨K, caps, true, ds, true, .undef, hf, rfl, hds, rfl, .inr (.inr (.inl ⟨i, j, hK, hA, rfl⟩))⟩
theorem WRun.lcall {ops : Array Oper} {o : Oper} {l : List Oper} {st : St} {acc : List FP} {Q : St -> List FP -> Prop} {c : Call} {f : Operand} {K : FuncId} {caps ds args : List D} {r : D} (met : List Nat)
  (ho : o.op = .call c) (hc : c.callee = .value f) (hg : o.guard = none) (hf : opd true (getR st.vars) f = (.fn (.func K) caps, true)) (hds : opds true (getR st.vars) c.args.toList = (ds, true)) (hl : zd1 (getL st.heap) (ds ++ caps) = (args, true)) (hm : ids2s (getL st.heap) (ds ++ caps) = met)
  (hK : CallP P K args r) (hQ : WRun P tab true lim ops l (st.app o.dst { d := r, vc := true, met := met }) (acc ++ [fpOf o (st.fs lim) { d := r, vc := true, met := met }]) Q) : WRun P tab true lim ops (o :: l) st acc Q := by
 obtain ⟨os, st', hch, hq⟩ := hQ
 refine ⟨_, st', .cons (out := { d := r, vc := true, met := met }) ?_ pureNw hch, by simpa using hq⟩
 unfold Fires
 simp only [hg]
 unfold Core
 simp only [ho, hc]
 have hl' : zd1 (st.fs lim).hp (ds ++ caps) = (args, true) := hl
 have hm' : ids2s (st.fs lim).hp (ds ++ caps) = met := hm
 exact ⟨K, caps, true, ds, true, r, hf, rfl, hds, rfl, .inr (.inr (.inr ⟨[], (0, 0), by rw [hl'], .inl ⟨by rw [hl']; exact hK, rfl, rfl⟩, by rw [hm']⟩))⟩
theorem WRun.glcall {ops : Array Oper} {o : Oper} {l : List Oper} {st : St} {acc : List FP} {Q : St -> List FP -> Prop} {c : Call} {f : Operand} {K : FuncId} {r : D} {j t : Nat} {want g : Bool} (met : List Nat)
  (ho : o.op = .call c) (hc : c.callee = .value f) (hg : o.guard = some (j, want)) (hj : dstAt ops.toList j = some t) (hgv : gval want (getR st.vars t) = some g)
  (h : g = true -> ∃ caps ds args, opd true (getR st.vars) f = (.fn (.func K) caps, true) /\ opds true (getR st.vars) c.args.toList = (ds, true) /\ zd1 (getL st.heap) (ds ++ caps) = (args, true) /\ ids2s (getL st.heap) (ds ++ caps) = met /\ CallP P K args r)
  (hQ : WRun P tab true lim ops l (st.app o.dst { d := .when g r, vc := true, met := met }) (acc ++ [fpOf o (st.fs lim) { d := .when g r, vc := true, met := met }]) Q) : WRun P tab true lim ops (o :: l) st acc Q := by
 obtain ⟨os, st', hch, hq⟩ := hQ
 refine ⟨_, st', .cons (out := { d := .when g r, vc := true, met := met }) ?_ pureNw hch, by simpa using hq⟩
 unfold Fires
 simp only [hg]
 refine ⟨t, g, { d := r, vc := true, met := met }, ?_, hgv, fun hgt => ?_, ?_⟩
 ·rw [zlq] at hj
  simpa [gslot] using hj
 ·obtain ⟨caps, ds, args, h1, h3, h5, h6, h7⟩ := h hgt
  unfold Core
  simp only [ho, hc]
  have hl' : zd1 (st.fs lim).hp (ds ++ caps) = (args, true) := h5
  have hm' : ids2s (st.fs lim).hp (ds ++ caps) = met := h6
  exact ⟨K, caps, true, ds, true, r, h1, rfl, h3, rfl, .inr (.inr (.inr ⟨[], (0, 0), by rw [hl'], .inl ⟨by rw [hl']; exact h7, rfl, rfl⟩, by rw [hm']⟩))⟩
 ·cases g <;> rfl
theorem WRun.ncall {ops : Array Oper} {o : Oper} {l : List Oper} {st : St} {acc : List FP} {Q : St -> List FP -> Prop} {c : Call} {f : Operand} {K : FuncId} {caps ds args : List D} {r : D} {eff : List (Nat × Option Blk)} {nw : Nat × Nat} (met : List Nat)
  (ho : o.op = .call c) (hc : c.callee = .value f) (hg : o.guard = none) (hf : opd true (getR st.vars) f = (.fn (.func K) caps, true)) (hds : opds true (getR st.vars) c.args.toList = (ds, true)) (hl : zd1 (getL st.heap) (ds ++ caps) = (args, true)) (hm : ids2s (getL st.heap) (ds ++ caps) = met)
  (hK : CallH P K args [] r eff nw) (he : newE nw eff = true) (hi : ∀ i ∈ r.ids, nw.1 <= i /\ i < nw.2) (hk : okM new1 r = true) (hn : st.nx <= nw.1 /\ nw.2 <= lim)
  (hQ : WRun P tab true lim ops l (st.app o.dst { d := r, vc := true, eff := eff, nw := nw, met := met }) (acc ++ [fpOf o (st.fs lim) { d := r, vc := true, eff := eff, nw := nw, met := met }]) Q) : WRun P tab true lim ops (o :: l) st acc Q := by
 obtain ⟨os, st', hch, hq⟩ := hQ
 refine ⟨_, st', .cons (out := { d := r, vc := true, eff := eff, nw := nw, met := met }) ?_ (fun id h1 h2 => Nat.le_trans hn.1 h1) hch, by simpa using hq⟩
 unfold Fires
 simp only [hg]
 unfold Core
 simp only [ho, hc]
 have hl' : zd1 (st.fs lim).hp (ds ++ caps) = (args, true) := hl
 have hm' : ids2s (st.fs lim).hp (ds ++ caps) = met := hm
 refine ⟨K, caps, true, ds, true, r, hf, rfl, hds, rfl, .inr (.inr (.inr ⟨eff, nw, by rw [hl'], .inr ⟨by rw [hl']; exact hK, he, hi, hk, fun id h1 h2 => ?_⟩, by rw [hm']⟩))⟩
 have h1 : nw.1 <= id := h1
 have h2 : id < nw.2 := h2
 simp only [St.fs, Bool.and_eq_true, decide_eq_true_eq]
 omega
end
def ResIs (tab : Nat -> TI) (st : St) (l : List ResultVar) (r : D) : Prop := match resL tab st l with | some (ds, p) => p = true /\ resT ds = r | none => False
theorem ResIs.to {tab : Nat -> TI} {st : St} {l : List ResultVar} {r : D} (h : ResIs tab st l r) : ∃ ds, resL tab st l = some (ds, true) /\ resT ds = r := by
 unfold ResIs at h
 split at h
 ·rename_i ds p he; obtain ⟨rfl, h2⟩ := h; exact ⟨ds, he, h2⟩
 ·exact h.elim
theorem wr_eq (k : IntKind) (n : Int) (h1 : k.min <= n) (h2 : n <= k.max) : wr k n = n := by
 unfold wr
 cases k <;> simp [IntKind.wrap, IntKind.min, IntKind.max, IntKind.signed, IntKind.bits] at h1 h2 ⊢ <;> (try split) <;> omega
def pickL {α : Type} : List Nat -> List (Nat × α) -> List (Nat × α)
 | [], _ => []
 | t :: V, l => match getL l t with
  | some d => (t, d) :: pickL V l
  | none => pickL V l
theorem zak {α : Type} (V : List Nat) (l : List (Nat × α)) (t : Nat) (d : α) (h : getL (pickL V l) t = some d) : getL l t = some d := by
 induction V with
 | nil => cases h
 | cons v V ih =>
  simp only [pickL] at h
  split at h
  ·rename_i x hx
   simp only [getL] at h
   cases hb : Nat.beq v t
   ·rw [hb] at h; exact ih h
   ·rw [hb] at h; cases h; rw [<- Nat.eq_of_beq_eq_true hb]; exact hx
  ·exact ih h
theorem sub_of (V H : List Nat) (st : St) {nx : Nat} (hn : st.nx <= nx) : Sub ⟨pickL V st.vars, pickL H st.heap, nx⟩ st := ⟨fun t d h => zak V _ t d h, fun t d h => zak H _ t d h, hn⟩
theorem callP_le {P : Program} {K : FuncId} {args args' : List D} {r : D} (h : ∀ C vs, reps C args vs -> reps C args' vs) (hK : CallP P K args' r) : CallP P K args r :=
 ⟨hK.1, fun w vs hvs => hK.2 w vs (h _ _ hvs)⟩
theorem rep_nil_split {s : Nat} {l : List D} (C : Cx) (v : Value) (h : rep C (.imm s l 4) v) : rep C (.imm s l 2) v \/ (l = [] /\ rep C (.imm s l 0) v) := by
 simp only [rep] at h ⊢
 obtain ⟨a, cap, rfl, h1, h2, _, _, _, h6, _, h7⟩ := h
 cases a with
 | some a0 =>
  left
  exact ⟨some a0, cap, rfl, h1, h2, by simp, by simp, by simp, by simp, by simp, by simpa using h7⟩
 | none =>
  right
  have hc := h6 rfl
  have hl : l = [] := List.length_eq_zero_iff.1 (by omega)
  subst hl
  exact ⟨rfl, none, cap, rfl, h1, h2, by simp, by simp, by simp [hc], fun _ => hc, by simp, .inl rfl⟩
theorem rep_nil_any {s s' c c' : Nat} (hc : c' % 8 = 4) (hz : 0 < c' / 8 -> 0 < c / 8) (C : Cx) (v : Value) (h : rep C (.imm s [] c) v) : rep C (.imm s' [] c') v := by
 simp only [rep] at h ⊢
 obtain ⟨a, cap, rfl, h1, h2, _, _, _, h6, h7, _⟩ := h
 exact ⟨a, cap, rfl, h1, h2, by omega, by omega, by omega, h6, fun h => h7 (hz h), .inl trivial⟩
end Go.Tm
end
section
namespace Go.Tm
open Go.RowKit Go.WideShapes
mutual
def wf : D -> Prop
 | .int k n => k.min <= n /\ n <= k.max
 | .str l => (l.length : Int) <= 9223372036854775807
 | .imm _ l c => (l.length : Int) <= 9223372036854775807 /\ (c < 8 -> wfL l)
 | .ref _ _ _ len _ => (len : Int) <= 9223372036854775807
 | .agg l => wfL l
 | .tuple l => wfL l
 | _ => True
def wfL : List D -> Prop
 | [] => True
 | d :: ds => wf d /\ wfL ds
end
mutual
theorem rep_wf {C : Cx} : ∀ (d : D) (v : Value), rep C d v -> wf d
 | .int k n, v, h => by simp only [rep] at h; simp only [wf]; exact h.2
 | .str l, v, h => by simp only [rep] at h; simp only [wf]; exact h.2
 | .imm s l c, v, h => by
  simp only [rep] at h; simp only [wf]
  obtain ⟨a, cap, _, h1, h2, _, _, _, _, _, h3⟩ := h
  refine ⟨by omega, fun hc => ?_⟩
  rcases h3 with rfl | h3
  ·simp only [wfL]
  ·obtain ⟨_, _, _, _, _, _, he⟩ := h3 C.Z (by simp [Cx.zone, Nat.div_eq_of_lt hc])
   exact elems_wf l _ _ _ he
 | .ref id s off len oc, v, h => by
  simp only [rep] at h; simp only [wf]
  obtain ⟨_, a, cap, _, h1, h2, _⟩ := h
  omega
 | .agg l, v, h => by
  simp only [rep] at h; simp only [wf]
  obtain ⟨cs, _, h⟩ := h
  exact znu l cs h
 | .tuple l, v, h => by
  simp only [rep] at h; simp only [wf]
  obtain ⟨cs, _, h⟩ := h
  exact znu l cs h
 | .bool _, _, _ | .ptr _ _, _, _ | .eptr _ _ _ _, _, _ | .iptr _ _, _, _ | .nilptr, _, _ | .fn _ _, _, _ | .nilfn, _, _ | .iface _ _, _, _ | .nilIface, _, _ | .mref _, _, _ | .nilmap, _, _ | .when _ _, _, _ | .undef, _, _ => by simp only [wf]
theorem znu {C : Cx} : ∀ (l : List D) (vs : List Value), reps C l vs -> wfL l
 | [], _, _ => by simp only [wfL]
 | d :: ds, vs, h => by
  simp only [reps] at h; simp only [wfL]
  obtain ⟨v, vs', _, h1, h2⟩ := h
  exact ⟨rep_wf d v h1, znu ds vs' h2⟩
theorem elems_wf {C : Cx} : ∀ (l : List D) (b o s : Nat), elems C l b o s -> wfL l
 | [], b, o, s, h => by simp only [wfL]
 | d :: ds, b, o, s, h => by
  simp only [elems] at h
  obtain ⟨⟨v, h1, _⟩, h2⟩ := h
  simp only [wfL]
  exact ⟨rep_wf d v h1, elems_wf ds _ _ _ h2⟩
end
section
variable {P : Program} {tab : Nat -> TI}
theorem callH_wf {K : FuncId} {args : List D} {H : List (Nat × Blk)} {r : D} {eff : List (Nat × Option Blk)} {nw : Nat × Nat} (he : Enters P K) (h : wfL args -> CallH P K args H r eff nw) : CallH P K args H r eff nw :=
 ⟨he, fun fr w g hp nu vs a1 a2 a3 hvs => (h (znu _ _ hvs)).2 fr w g hp nu vs a1 a2 a3 hvs⟩
theorem zkj {K : FuncId} {args : List D} {r : D} {eff : List (Nat × Option Blk)} {nw : Nat × Nat} (hr : r.ids = []) (hk : okM new1 r = true) (h : CallH P K args [] r eff nw) : CallP P K args r := by
 refine ⟨h.1, fun w vs hvs => ?_⟩
 let g : Gh := ⟨fun _ => none, fun _ => True, fun m => if m = 1 then some (fun x => w.heap.size <= x) else if m = 2 then some (fun x => x < w.heap.size) else none⟩
 have hM : Mem w.heap.size w g (fun _ => none) (fun _ => true) := by
  refine ⟨(fun id blk h => by cases h), fun id id' b o o' h => absurd rfl h, fun id _ => ⟨rfl, rfl⟩, ⟨fun _ _ => trivial, ⟨_, rfl, fun x hx => ⟨hx, trivial⟩, fun x hx => hx⟩, ⟨_, rfl, fun x hx => ⟨hx, trivial⟩⟩, ?_, fun b hb => by obtain ⟨id, o, h1, _⟩ := hb; exact absurd rfl h1⟩, Nat.le_refl _⟩
  intro m Zm hm hz
  have : g.zn m = none := by
   simp only [g]
   rw [if_neg (by omega), if_neg (by omega)]
  rw [this] at hz; cases hz
 have hle : Cx.Le (cx0 w w.heap.size) (cx w g fun _ => none) := by
  refine ⟨fun m _ Z' hZ' => ⟨Z', hZ', fun b _ k2 k3 => ⟨?_, k2, .refl k3⟩⟩, fun _ _ => rfl, fun _ => rfl, (fun x => by cases x), (fun x => by cases x)⟩
  rintro ⟨id, o, h1, _⟩
  exact h1 rfl
 refine (h.2 w.heap.size w g (fun _ => none) (fun _ => true) vs hM (fun id b h => by cases h) (fun _ _ _ => rfl) (zfc hle _ _ hvs)).mono ?_
 rintro e w' ⟨v, g', he, ha⟩
 refine ⟨v, he, ha.keep.mono ?_, hk, ?_⟩
 ·rintro i _ ⟨id, o, h1, _⟩
  exact h1 rfl
 ·refine zm9 (C := (cx w' g' (effH (fun _ => none) eff)).noref) (C' := cx0 w' w.heap.size) (q := new1) ?_ (fun _ _ => rfl) rfl rfl r v hk (zl9 r v hr ha.res)
  intro m hm Z' hZ'
  have hm : m = 1 := Nat.eq_of_beq_eq_true hm
  subst hm
  refine ⟨fun b => w.heap.size <= b, ?_, fun b _ k2 _ => ⟨fun h => h, ?_, rfl⟩⟩
  ·show g'.zn 1 = _
   rw [ha.gz.2]
   rfl
  ·have : (fun b => w.heap.size <= b) = Z' := by simpa [Cx.zone, cx0] using hZ'
   rw [<- this]; exact k2
theorem za9 (hT : TabOk P tab) {K : FuncId} {fn : Func} {c : Code} {args : List D} {r : D} (lim : Nat) (hf : P.funcs[K]? = some fn) (hb : fn.body = some c) (hname : fn.name ≠ "runtime.NumGoroutine") (hr : r.ids = []) (hk : okM new1 r = true) (hlen : args.length <= fn.ntmps)
  (h : wfL args -> Ok P lim fn.ntmps c ⟨zcw 0 args, [], 0⟩ fun e st => (e = .normal \/ e = .ret) /\ ∃ ds, resL tab st fn.results.toList = some (ds, true) /\ resT ds = r) : CallP P K args r := by
 refine zkj (eff := []) (nw := (0, lim)) hr hk (callH_wf ⟨fn, hf, hname, by rw [hb]; rfl⟩ fun hwf => ?_)
 refine zky hT hf hb hname hlen (fun x hx => by cases hx) ((h hwf).mono ?_)
 rintro e st ⟨h1, ds, h2, h3⟩
 exact ⟨h1, ds, h2, h3, [], (fun i x h => by cases h), rfl⟩
theorem za4 (hT : TabOk P tab) {K : FuncId} {fn : Func} {c : Code} {args : List D} {H : List (Nat × Blk)} {r : D} {eff : List (Nat × Option Blk)} {nw : Nat × Nat} (hf : P.funcs[K]? = some fn) (hb : fn.body = some c) (hname : fn.name ≠ "runtime.NumGoroutine") (hlen : args.length <= fn.ntmps)
  (hE : ∀ x ∈ eff, x.1 ∈ H.map (·.1) \/ nw.1 <= x.1 /\ x.1 < nw.2)
  (h : wfL args -> Ok P nw.2 fn.ntmps c ⟨zcw 0 args, H, nw.1⟩ fun e st => (e = .normal \/ e = .ret) /\ ∃ ds, resL tab st fn.results.toList = some (ds, true) /\ resT ds = r /\ ∃ h2 : List (Nat × Blk), (∀ i x, getL h2 i = some x -> getL st.heap i = some x) /\ getL h2 = effH (getL H) eff) : CallH P K args H r eff nw :=
 callH_wf ⟨fn, hf, hname, by rw [hb]; rfl⟩ fun hwf => zky hT hf hb hname hlen hE (h hwf)
end
theorem retH {tab : Nat -> TI} {st : St} {rs : List ResultVar} {r : D} {H : List (Nat × Blk)} {eff : List (Nat × Option Blk)} (V : List Nat) (hr : ResIs tab st rs r) (he : pickL V st.heap = effL H eff) :
  ∃ ds, resL tab st rs = some (ds, true) /\ resT ds = r /\ ∃ h2 : List (Nat × Blk), (∀ i x, getL h2 i = some x -> getL st.heap i = some x) /\ getL h2 = effH (getL H) eff := by
 obtain ⟨ds, h1, h2⟩ := hr.to
 exact ⟨ds, h1, h2, pickL V st.heap, fun i x h => zak V _ i x h, by funext i; rw [he, zjv]⟩
def Wk (d d' : D) : Prop := ∀ C v, rep C d v -> rep C d' v
def WkL (l l' : List D) : Prop := ∀ C vs, reps C l vs -> reps C l' vs
theorem Wk.refl (d : D) : Wk d d := fun _ _ h => h
theorem WkL.refl (l : List D) : WkL l l := fun _ _ h => h
theorem WkL.cons {d d' : D} {l l' : List D} (h : Wk d d') (hl : WkL l l') : WkL (d :: l) (d' :: l') := fun C vs hv => by
 simp only [reps] at hv ⊢
 obtain ⟨v, vs', e, h1, h2⟩ := hv
 exact ⟨v, vs', e, h C v h1, hl C vs' h2⟩
theorem Wk.agg {l l' : List D} (hl : WkL l l') : Wk (.agg l) (.agg l') := fun C v hv => by
 simp only [rep] at hv ⊢
 obtain ⟨cs, e, h⟩ := hv
 exact ⟨cs, e, hl C cs h⟩
theorem callP_wk {P : Program} {K : FuncId} {args args' : List D} {r : D} (h : WkL args args') (hK : CallP P K args' r) : CallP P K args r := callP_le h hK
end Go.Tm
end
section
namespace Go.Tm
open Go.RowKit Go.WideShapes
end Go.Tm
end
section
namespace Go.Tm
open Go.RowKit Go.WideShapes
mutual
def pl : D -> Bool
 | .bool _ | .int _ _ | .str _ => true
 | .agg l => plL l
 | _ => false
def plL : List D -> Bool
 | [] => true
 | d :: ds => pl d && plL ds
end
mutual
theorem rep_pl {C C' : Cx} : ∀ (d : D) (v : Value), pl d = true -> rep C d v -> rep C' d v
 | .bool _, _, _, h => by simpa only [rep] using h
 | .int _ _, _, _, h => by simpa only [rep] using h
 | .str _, _, _, h => by simpa only [rep] using h
 | .agg l, v, hk, h => by
  simp only [rep, pl] at h hk ⊢
  obtain ⟨cs, e, h⟩ := h
  exact ⟨cs, e, reps_pl l cs hk h⟩
 | .imm _ _ _, _, hk, _ | .ref _ _ _ _ _, _, hk, _ | .ptr _ _, _, hk, _ | .eptr _ _ _ _, _, hk, _ | .iptr _ _, _, hk, _ | .nilptr, _, hk, _ | .tuple _, _, hk, _ | .fn _ _, _, hk, _ | .nilfn, _, hk, _ | .iface _ _, _, hk, _ | .nilIface, _, hk, _ | .mref _, _, hk, _ | .nilmap, _, hk, _ | .when _ _, _, hk, _ | .undef, _, hk, _ => by simp [pl] at hk
theorem reps_pl {C C' : Cx} : ∀ (l : List D) (vs : List Value), plL l = true -> reps C l vs -> reps C' l vs
 | [], _, _, h => by simpa only [reps] using h
 | d :: ds, vs, hk, h => by
  simp only [reps, plL, Bool.and_eq_true] at h hk ⊢
  obtain ⟨v, vs', e, h1, h2⟩ := h
  exact ⟨v, vs', e, rep_pl d v hk.1 h1, reps_pl ds vs' hk.2 h2⟩
end
theorem elems_pl {C C' : Cx} (hw : C'.w = C.w) : ∀ (l : List D) (b o s : Nat), plL l = true -> elems C l b o s -> elems C' l b o s
 | [], _, _, _, _, _ => by simp only [elems]
 | d :: ds, b, o, s, hk, h => by
  simp only [plL, Bool.and_eq_true] at hk
  simp only [elems] at h ⊢
  obtain ⟨⟨v, h1, h2, h3, h4⟩, h5⟩ := h
  exact ⟨⟨v, rep_pl d v hk.1 h1, h2, h3, by rw [hw]; exact h4⟩, elems_pl hw ds b (o + s) s hk.2 h5⟩
end Go.Tm
namespace Go.Tm
open Go.RowKit Go.WideShapes
end Go.Tm
end
section
namespace Go.Tm
open Go.RowKit Go.WideShapes
mutual
def D.ren (f : Nat -> Nat) : D -> D
 | .agg l => .agg (D.renL f l)
 | .ref id s off len oc => .ref (f id) s off len oc
 | .ptr id off => .ptr (f id) off
 | .eptr id s i off => .eptr (f id) s i off
 | .mref id => .mref (f id)
 | .tuple l => .tuple (D.renL f l)
 | .fn g l => .fn g (D.renL f l)
 | .iface t d => .iface t (D.ren f d)
 | .when c d => .when c (D.ren f d)
 | d => d
def D.renL (f : Nat -> Nat) : List D -> List D
 | [] => []
 | d :: ds => D.ren f d :: D.renL f ds
end
def renEs (f : Nat -> Nat) : List (D × D) -> List (D × D)
 | [] => []
 | x :: xs => (x.1.ren f, x.2.ren f) :: renEs f xs
def Blk.ren (f : Nat -> Nat) : Blk -> Blk
 | .box cells => .box (D.renL f cells)
 | .arr e s p items => .arr e s p (bif p then items else D.renL f items)
 | .map es => .map (renEs f es)
def idsEs : List (D × D) -> List Nat
 | [] => []
 | x :: xs => x.1.ids ++ x.2.ids ++ idsEs xs
def Blk.ids : Blk -> List Nat
 | .box cells => D.idsL cells
 | .arr _ _ p items => bif p then [] else D.idsL items
 | .map es => idsEs es
structure Mv (f : Nat -> Nat) (L : Nat -> Prop) (C C' : Cx) : Prop where
 w : C'.w = C.w
 Z : C'.Z = C.Z
 zn : C'.zn = C.zn
 fl : C'.fl = C.fl
 rf : C'.rf = C.rf
 M : ∀ b, C'.M b -> C.M b
 s : ∀ i, L i -> C'.σ (f i) = C.σ i
theorem Mv.zone {f L C C'} (h : Mv f L C C') (m : Nat) : C'.zone m = C.zone m := by
 unfold Cx.zone; rw [h.Z, h.zn]
theorem Mv.inner {f L C C'} (h : Mv f L C C') (Z : Nat -> Prop) : (C.at Z).Le (C'.at Z) :=
 Cx.Le.inner (fun _ _ => by rw [h.w]) fun b k1 k2 _ => ⟨fun hm => k1 (h.M b hm), k2, by rw [h.w]⟩
theorem Mv.noref {f : Nat -> Nat} {L C C'} (h : Mv f L C C') (q : Bool) : Mv f L { C with rf := q } { C' with rf := q } := ⟨h.w, h.Z, h.zn, h.fl, rfl, h.M, h.s⟩
mutual
theorem zn0 {f : Nat -> Nat} {L : Nat -> Prop} {C C' : Cx} (h : Mv f L C C') : ∀ (d : D) (v : Value), (∀ i ∈ d.ids, L i) -> rep C d v -> rep C' (d.ren f) v
 | .bool b, v, _, hr => by simpa only [rep, D.ren] using hr
 | .int k n, v, _, hr => by simpa only [rep, D.ren] using hr
 | .str l, v, _, hr => by simpa only [rep, D.ren] using hr
 | .agg l, v, hi, hr => by
  simp only [rep, D.ren, D.ids] at hr hi ⊢
  obtain ⟨cs, rfl, hc⟩ := hr
  exact ⟨cs, rfl, zm8 h l cs hi hc⟩
 | .imm s l c, v, _, hr => by
  simp only [rep, D.ren] at hr ⊢
  obtain ⟨a, cap, rfl, h1, h2, h3, h4, h5, h6, hfl, h7⟩ := hr
  refine ⟨a, cap, rfl, h1, h2, h3, h4, h5, h6, fun x => by rw [h.fl]; exact hfl x, ?_⟩
  rcases h7 with h7 | h7
  ·exact .inl h7
  right
  intro Z' hZ'
  rw [h.zone] at hZ'
  obtain ⟨a0, ha, hs, hM, hlo, hb, he⟩ := h7 Z' hZ'
  exact ⟨a0, ha, hs, fun hm => hM (h.M _ hm), hlo, by rw [h.w]; exact hb, zdx (h.inner Z') l _ _ _ (by show C'.w.heap[_]? = C.w.heap[_]?; rw [h.w]) he⟩
 | .ref id s off len oc, v, hi, hr => by
  simp only [rep, D.ren, D.ids, List.mem_singleton, forall_eq] at hr hi ⊢
  obtain ⟨h0, a, cap, rfl, h1, h2, h3, hoc, h4⟩ := hr
  have hs := h.s id hi
  refine ⟨by rw [h.rf]; exact h0, a, cap, rfl, h1, h2, h3, ⟨hoc.1, fun ho => ?_⟩, ?_⟩
  ·obtain ⟨b, T, n, k1, k2, k3⟩ := hoc.2 ho
   exact ⟨b, T, n, by rw [hs]; exact k1, by rw [h.w]; exact k2, k3⟩
  ·rcases h4 with h4 | ⟨b, T, n, k1, k2, k3, k4⟩
   ·exact .inl h4
   ·exact .inr ⟨b, T, n, by rw [hs]; exact k1, k2, by rw [h.w]; exact k3, k4⟩
 | .ptr id off, v, hi, hr => by
  simp only [rep, D.ren, D.ids, List.mem_singleton, forall_eq] at hr hi ⊢
  obtain ⟨h0, b, o, hσ, rfl⟩ := hr
  exact ⟨by rw [h.rf]; exact h0, b, o, by rw [h.s id hi]; exact hσ, rfl⟩
 | .eptr id s i off, v, hi, hr => by
  simp only [rep, D.ren, D.ids, List.mem_singleton, forall_eq] at hr hi ⊢
  obtain ⟨h0, hs0, b, o, hσ, rfl⟩ := hr
  exact ⟨by rw [h.rf]; exact h0, hs0, b, o, by rw [h.s id hi]; exact hσ, rfl⟩
 | .iptr m l, v, _, hr => by
  simp only [rep, D.ren] at hr ⊢
  obtain ⟨a0, rfl, hs, hfl, hr⟩ := hr
  refine ⟨a0, rfl, hs, fun x => by rw [h.fl]; exact hfl x, ?_⟩
  rcases hr with hr | hr
  ·exact .inl hr
  right
  intro Z' hZ'
  rw [h.zone] at hZ'
  obtain ⟨hM, hlo, hb, he⟩ := hr Z' hZ'
  exact ⟨fun hm => hM (h.M _ hm), hlo, by rw [h.w]; exact hb, cels_le (h.inner Z') l _ _ (by show C'.w.heap[_]? = C.w.heap[_]?; rw [h.w]) he⟩
 | .nilptr, v, _, hr => by simpa only [rep, D.ren] using hr
 | .tuple l, v, hi, hr => by
  simp only [rep, D.ren, D.ids] at hr hi ⊢
  obtain ⟨cs, rfl, hc⟩ := hr
  exact ⟨cs, rfl, zm8 h l cs hi hc⟩
 | .fn g l, v, hi, hr => by
  simp only [rep, D.ren, D.ids] at hr hi ⊢
  obtain ⟨cs, rfl, hc⟩ := hr
  exact ⟨cs, rfl, zm8 h l cs hi hc⟩
 | .nilfn, v, _, hr => by simpa only [rep, D.ren] using hr
 | .iface t d, v, hi, hr => by
  simp only [rep, D.ren, D.ids] at hr hi ⊢
  obtain ⟨x, rfl, hx⟩ := hr
  exact ⟨x, rfl, zn0 h d x hi hx⟩
 | .nilIface, v, _, hr => by simpa only [rep, D.ren] using hr
 | .mref id, v, hi, hr => by
  simp only [rep, D.ren, D.ids, List.mem_singleton, forall_eq] at hr hi ⊢
  obtain ⟨h0, b, o, hσ, rfl⟩ := hr
  exact ⟨by rw [h.rf]; exact h0, b, o, by rw [h.s id hi]; exact hσ, rfl⟩
 | .nilmap, v, _, hr => by simpa only [rep, D.ren] using hr
 | .when c d, v, hi, hr => by
  simp only [rep, D.ren, D.ids] at hr hi ⊢
  exact ⟨fun hc => zn0 h d v hi (hr.1 hc), hr.2⟩
 | .undef, v, _, _ => by simp only [rep, D.ren]
theorem zm8 {f : Nat -> Nat} {L : Nat -> Prop} {C C' : Cx} (h : Mv f L C C') : ∀ (l : List D) (vs : List Value), (∀ i ∈ D.idsL l, L i) -> reps C l vs -> reps C' (D.renL f l) vs
 | [], vs, _, hr => by simpa only [reps, D.renL] using hr
 | d :: ds, vs, hi, hr => by
  simp only [reps, D.renL, D.idsL, List.mem_append] at hr hi ⊢
  obtain ⟨v, vs', rfl, h1, h2⟩ := hr
  exact ⟨v, vs', rfl, zn0 h d v (fun i k => hi i (.inl k)) h1, zm8 h ds vs' (fun i k => hi i (.inr k)) h2⟩
end
theorem elems_mv {f : Nat -> Nat} {L : Nat -> Prop} {C C' : Cx} (h : Mv f L C C') : ∀ (l : List D) (b o s : Nat), (∀ i ∈ D.idsL l, L i) -> elems C l b o s -> elems C' (D.renL f l) b o s
 | [], _, _, _, _, _ => by simp only [elems, D.renL]
 | d :: ds, b, o, s, hi, hr => by
  simp only [elems, D.renL, D.idsL, List.mem_append] at hr hi ⊢
  obtain ⟨⟨v, h1, h2, h2', h3⟩, h4⟩ := hr
  exact ⟨⟨v, zn0 h d v (fun i k => hi i (.inl k)) h1, h2, h2', by rw [h.w]; exact h3⟩, elems_mv h ds b (o + s) s (fun i k => hi i (.inr k)) h4⟩
theorem ents_mv {f : Nat -> Nat} {L : Nat -> Prop} {C C' : Cx} (h : Mv f L C C') : ∀ (l : List (D × D)) (es : List MapEntry), (∀ i ∈ idsEs l, L i) -> ze3 C l es -> ze3 C' (renEs f l) es
 | [], es, _, hr => by simpa only [ze3, renEs] using hr
 | x :: xs, es, hi, hr => by
  simp only [ze3, renEs, idsEs, List.mem_append] at hr hi ⊢
  obtain ⟨e, es', rfl, ⟨h1, h2⟩, h3⟩ := hr
  exact ⟨e, es', rfl, ⟨zn0 h _ _ (fun i k => hi i (.inl (.inl k))) h1, zn0 h _ _ (fun i k => hi i (.inl (.inr k))) h2⟩, ents_mv h xs es' (fun i k => hi i (.inr k)) h3⟩
theorem holds_mv {f : Nat -> Nat} {L : Nat -> Prop} {C C' : Cx} (h : Mv f L C C') {id : Nat} {blk : Blk} (hid : L id) (hi : ∀ i ∈ blk.ids, L i) (hr : holds C id blk) : holds C' (f id) (blk.ren f) := by
 have hs := h.s id hid
 cases blk with
 | box cells =>
  obtain ⟨b, cs, T, h1, h2, h3, h4⟩ := hr
  exact ⟨b, cs, T, by rw [hs]; exact h1, by rw [h.w]; exact h2, zm8 h _ _ hi h3, h4⟩
 | arr e s p items =>
  rcases hr with ⟨h1, h2⟩ | ⟨b, cs, h1, h2, h3, h4⟩
  ·left
   refine ⟨?_, by rw [hs]; exact h2⟩
   subst h1; cases p <;> rfl
  ·right
   refine ⟨b, cs, by rw [hs]; exact h1, by rw [h.w]; exact h2, ?_⟩
   cases p with
   | true =>
    refine ⟨h3, ?_⟩
    refine zdx (C := { C with rf := !true }) (C' := { C' with rf := !true }) ⟨fun m _ Z' hZ' => ?_, fun _ _ => by rw [h.w], fun hf => by show C'.fl = true; rw [h.fl]; exact hf, (fun hf => by cases hf), (fun hf => by cases hf)⟩ _ _ _ _ (by rw [h.w]) h4
    have hZ2 : C.zone m = some Z' := by rw [<- h.zone]; exact hZ'
    exact ⟨Z', hZ2, fun b k1 k2 k3 => ⟨fun hm => k1 (h.M b hm), k2, by rw [h.w]; exact .refl k3⟩⟩
   | false =>
    simp only [cond_false]
    have hl : ∀ l : List D, (D.renL f l).length = l.length := by intro l; induction l with | nil => rfl | cons d ds ih => simp only [D.renL, List.length_cons, ih]
    exact ⟨by rw [hl]; exact h3, elems_mv (h.noref _) _ _ _ _ (by simpa only [Blk.ids, cond_false] using hi) h4⟩
 | map es =>
  obtain ⟨b, ens, clock, h1, h2, h3⟩ := hr
  exact ⟨b, ens, clock, by rw [hs]; exact h1, by rw [h.w]; exact h2, ents_mv h _ _ hi h3⟩
def mvF (ps : List (Nat × Nat)) (i : Nat) : Nat := match getL ps i with
 | some j => j
 | none => i
def mvV (f : Nat -> Nat) : List (Nat × D) -> List (Nat × D)
 | [] => []
 | (t, d) :: r => (t, d.ren f) :: mvV f r
def mvH (f : Nat -> Nat) : List (Nat × Blk) -> List (Nat × Blk)
 | [] => []
 | (i, b) :: r => (f i, b.ren f) :: mvH f r
def idsV : List (Nat × D) -> List Nat
 | [] => []
 | (_, d) :: r => d.ids ++ idsV r
def idsH : List (Nat × Blk) -> List Nat
 | [] => []
 | (i, b) :: r => i :: (b.ids ++ idsH r)
def mvOk (ps : List (Nat × Nat)) (n0 n1 : Nat) : List Nat -> Bool
 | [] => true
 | i :: r => (bif Nat.blt i n0 then Nat.beq (mvF ps i) i || (Nat.ble n0 (mvF ps i) && Nat.blt (mvF ps i) n1) else Nat.ble n0 (mvF ps i) && Nat.blt (mvF ps i) n1) && (r.all fun j => Nat.beq i j || !(Nat.beq (mvF ps i) (mvF ps j))) && mvOk ps n0 n1 r
theorem mvOk_at {ps : List (Nat × Nat)} {n0 n1 : Nat} : ∀ {l : List Nat}, mvOk ps n0 n1 l = true -> (∀ i ∈ l, (mvF ps i = i /\ i < n0) \/ (n0 <= mvF ps i /\ mvF ps i < n1)) /\ ∀ i ∈ l, ∀ j ∈ l, mvF ps i = mvF ps j -> i = j
 | [], _ => ⟨(fun _ h => by cases h), (fun _ h => by cases h)⟩
 | i :: r, h => by
  simp only [mvOk, Bool.and_eq_true] at h
  obtain ⟨⟨h1, h2⟩, h3⟩ := h
  obtain ⟨k1, k2⟩ := mvOk_at h3
  have e1 : (mvF ps i = i /\ i < n0) \/ (n0 <= mvF ps i /\ mvF ps i < n1) := by
   cases hb : Nat.blt i n0
   ·rw [hb] at h1
    simp only [cond_false, Bool.and_eq_true] at h1
    exact .inr ⟨Nat.le_of_ble_eq_true h1.1, Nat.le_of_ble_eq_true h1.2⟩
   ·rw [hb] at h1
    simp only [cond_true, Bool.or_eq_true, Bool.and_eq_true] at h1
    rcases h1 with h1 | h1
    ·exact .inl ⟨Nat.eq_of_beq_eq_true h1, Nat.le_of_ble_eq_true hb⟩
    ·exact .inr ⟨Nat.le_of_ble_eq_true h1.1, Nat.le_of_ble_eq_true h1.2⟩
  have e2 : ∀ j ∈ r, mvF ps i = mvF ps j -> i = j := by
   intro j hj he
   have := List.all_eq_true.1 h2 j hj
   simp only [Bool.or_eq_true, Bool.not_eq_true'] at this
   rcases this with h | h
   ·exact Nat.eq_of_beq_eq_true h
   ·rw [he, Nat.beq_refl] at h; cases h
  refine ⟨fun x hx => ?_, fun x hx y hy he => ?_⟩
  ·rcases List.mem_cons.1 hx with rfl | hx
   ·exact e1
   ·exact k1 x hx
  ·rcases List.mem_cons.1 hx with hx | hx <;> rcases List.mem_cons.1 hy with hy | hy
   ·rw [hx, hy]
   ·rw [hx] at he ⊢; exact e2 y hy he
   ·rw [hy] at he ⊢; exact (e2 x hx he.symm).symm
   ·exact k2 x hx y hy he
theorem getL_mvV {f : Nat -> Nat} : ∀ (l : List (Nat × D)) (t : Nat), getL (mvV f l) t = (getL l t).map (D.ren f)
 | [], _ => rfl
 | (a, d) :: r, t => by
  simp only [mvV, getL]
  cases Nat.beq a t
  ·simp only [cond_false]; exact getL_mvV r t
  ·rfl
theorem mem_idsV : ∀ {l : List (Nat × D)} {t : Nat} {d : D}, getL l t = some d -> ∀ i ∈ d.ids, i ∈ idsV l
 | (a, x) :: r, t, d, h, i, hi => by
  simp only [getL] at h
  simp only [idsV, List.mem_append]
  cases hb : Nat.beq a t
  ·rw [hb] at h; exact .inr (mem_idsV h i hi)
  ·rw [hb] at h; cases h; exact .inl hi
theorem mem_idsH : ∀ {l : List (Nat × Blk)} {t : Nat} {b : Blk}, getL l t = some b -> t ∈ idsH l /\ ∀ i ∈ b.ids, i ∈ idsH l
 | (a, x) :: r, t, b, h => by
  simp only [getL] at h
  simp only [idsH, List.mem_cons, List.mem_append]
  cases hb : Nat.beq a t
  ·rw [hb] at h
   obtain ⟨h1, h2⟩ := mem_idsH h
   exact ⟨.inr (.inr h1), fun i hi => .inr (.inr (h2 i hi))⟩
  ·rw [hb] at h; cases h
   exact ⟨.inl (Nat.eq_of_beq_eq_true hb).symm, fun i hi => .inr (.inl hi)⟩
theorem getL_mvH {f : Nat -> Nat} : ∀ (l : List (Nat × Blk)), (∀ i ∈ idsH l, ∀ j ∈ idsH l, f i = f j -> i = j) -> ∀ (t : Nat) (b : Blk), getL (mvH f l) t = some b -> ∃ i b0, getL l i = some b0 /\ f i = t /\ b = b0.ren f
 | [], _, _, _, h => by cases h
 | (a, x) :: r, hinj, t, b, h => by
  simp only [mvH, getL] at h
  cases hb : Nat.beq (f a) t
  ·rw [hb] at h
   obtain ⟨i, b0, h1, h2, h3⟩ := getL_mvH r (fun i hi j hj => hinj i (by simp [idsH, hi]) j (by simp [idsH, hj])) t b h
   refine ⟨i, b0, ?_, h2, h3⟩
   simp only [getL]
   cases hc : Nat.beq a i
   ·exact h1
   ·have := Nat.eq_of_beq_eq_true hc
    subst this
    rw [h2] at hb
    simp at hb
  ·rw [hb] at h
   cases h
   exact ⟨a, x, by simp [getL], Nat.eq_of_beq_eq_true hb, rfl⟩
section
variable {E : En} {n lim : Nat} {F : FrS} {a : Act} {w : World} {g : Gh} {st : St}
theorem Rel.move (hF : F.on lim st) (h : Rel E n F a w g) (ps : List (Nat × Nat)) (n0 n1 : Nat) (hn0 : n0 <= n1) (hn1 : n1 <= lim) (hE : ∀ id, n0 <= id -> id < lim -> E.nu0 id = true) (hok : mvOk ps n0 n1 (idsV st.vars ++ idsH st.heap) = true) :
  ∃ F' g', F'.on lim ⟨mvV (mvF ps) st.vars, mvH (mvF ps) st.heap, n1⟩ /\ Rel E n F' a w g' := by
 obtain ⟨h1, h2, h3⟩ := hF
 obtain ⟨hp, hinj⟩ := mvOk_at hok
 let L : Nat -> Prop := fun i => i ∈ idsV st.vars ++ idsH st.heap
 classical
 let σ' : Nat -> Option (Nat × Nat) := fun j => if n0 <= j /\ j < lim then (if hx : ∃ i, L i /\ mvF ps i = j then g.σ hx.choose else none) else g.σ j
 have hs : ∀ i, L i -> σ' (mvF ps i) = g.σ i := by
  intro i hi
  show (if _ then _ else _) = _
  rcases hp i hi with ⟨k1, k2⟩ | ⟨k1, k2⟩
  ·rw [if_neg (by rw [k1]; omega), k1]
  ·rw [if_pos ⟨k1, by omega⟩]
   have hx : ∃ i', L i' /\ mvF ps i' = mvF ps i := ⟨i, hi, rfl⟩
   rw [dif_pos hx, hinj _ hx.choose_spec.1 _ hi hx.choose_spec.2]
 let g' : Gh := ⟨σ', g.Z, g.zn⟩
 let hp' : Nat -> Option Blk := getL (mvH (mvF ps) st.heap)
 have hH : ∀ id blk, hp' id = some blk -> ∃ i b0, getL st.heap i = some b0 /\ mvF ps i = id /\ blk = b0.ren (mvF ps) /\ L i /\ ∀ k ∈ b0.ids, L k := by
  intro id blk hb
  obtain ⟨i, b0, e1, e2, e3⟩ := getL_mvH st.heap (fun i hi j hj => hinj i (List.mem_append_right _ hi) j (List.mem_append_right _ hj)) id blk hb
  obtain ⟨m1, m2⟩ := mem_idsH e1
  exact ⟨i, b0, e1, e2, e3, List.mem_append_right _ m1, fun k hk => List.mem_append_right _ (m2 k hk)⟩
 have hlive : ∀ id, hp' id ≠ none -> ∃ i, F.hp i ≠ none /\ mvF ps i = id /\ L i := by
  intro id hid
  obtain ⟨b, hb⟩ := Option.ne_none_iff_exists'.1 hid
  obtain ⟨i, b0, e1, e2, _, e4, _⟩ := hH id b hb
  exact ⟨i, by rw [h2, e1]; simp, e2, e4⟩
 have hM : ∀ b, ownB g' hp' b -> ownB g F.hp b := by
  rintro b ⟨id, o, k1, k2⟩
  obtain ⟨i, e1, rfl, e3⟩ := hlive id k1
  have k2 : σ' (mvF ps i) = some (b, o) := k2
  rw [hs i e3] at k2
  exact ⟨i, o, e1, k2⟩
 have hmv : Mv (mvF ps) L (cx w g F.hp) (cx w g' hp') := ⟨rfl, rfl, rfl, rfl, rfl, hM, hs⟩
 let nu' : Nat -> Bool := fun id => decide (n1 <= id) && decide (id < lim)
 refine ⟨⟨getR (mvV (mvF ps) st.vars), hp', nu'⟩, g', ⟨rfl, rfl, fun id k1 k2 => by simp [nu', show n1 <= id from k1, k2]⟩, ⟨h.sz, h.df, fun t => ?_, ?_, ?_, h.keep, h.gz, ?_, ?_⟩⟩
 ·have hr := h.rd t
  show rep (cx w g' hp') (getR (mvV (mvF ps) st.vars) t) _
  rw [h1] at hr
  unfold getR at hr ⊢
  rw [getL_mvV]
  cases hg : getL st.vars t with
  | none => simp only [Option.map_none, rep]
  | some d =>
   rw [hg] at hr
   exact zn0 hmv d _ (fun i hi => List.mem_append_left _ (mem_idsV hg i hi)) hr
 ·refine ⟨fun id blk hb => ?_, fun id id' b o o' k1 k2 k3 k4 => ?_, fun id hid => ?_, ?_, h.mem.fl⟩
  ·obtain ⟨i, b0, e1, rfl, rfl, e4, e5⟩ := hH id blk hb
   exact holds_mv hmv e4 e5 (h.mem.hd i b0 (by rw [h2]; exact e1))
  ·obtain ⟨i, e1, rfl, e3⟩ := hlive id k1
   obtain ⟨i', e1', rfl, e3'⟩ := hlive id' k2
   have k3 : σ' (mvF ps i) = some (b, o) := k3
   have k4 : σ' (mvF ps i') = some (b, o') := k4
   rw [hs i e3] at k3
   rw [hs i' e3'] at k4
   rw [h.mem.inj i i' b o o' e1 e1' k3 k4]
  ·simp only [nu', Bool.and_eq_true, decide_eq_true_eq] at hid
   have hno : ¬ ∃ i, L i /\ mvF ps i = id /\ n0 <= id := by
    rintro ⟨i, e1, rfl, e3⟩
    rcases hp i e1 with ⟨e4, e5⟩ | ⟨_, e5⟩ <;> omega
   by_cases hb : n0 <= id
   ·refine ⟨?_, ?_⟩
    ·show (if _ then _ else _) = _
     rw [if_pos ⟨hb, hid.2⟩, dif_neg (fun ⟨i, e1, e2⟩ => hno ⟨i, e1, e2, hb⟩)]
    ·cases hh : hp' id with
     | none => exact hh
     | some blk =>
      obtain ⟨i, b0, _, e2, _, e4, _⟩ := hH id blk hh
      exact absurd ⟨i, e4, e2, hb⟩ hno
   ·omega
  ·refine ⟨h.mem.zs.z0, h.mem.zs.z1, h.mem.zs.z2, fun m Zm hm hz b hb => ?_, fun b hb => h.mem.zs.zo b (hM b hb)⟩
   obtain ⟨e1, e2, e3, e4, e5⟩ := h.mem.zs.zr m Zm hm hz b hb
   exact ⟨e1, e2, e3, fun hx => e4 (hM b hx), e5⟩
 ·intro id b o k1 k2
  obtain ⟨i, e1, rfl, e3⟩ := hlive id k1
  have k2 : σ' (mvF ps i) = some (b, o) := k2
  rw [hs i e3] at k2
  exact h.base i b o e1 k2
 ·intro id hid
  show (if _ then _ else _) = _
  rw [if_neg fun ⟨k1, k2⟩ => by rw [hE id k1 k2] at hid; cases hid]
  exact h.gs id hid
 ·intro id hid
  simp only [nu', Bool.and_eq_true, decide_eq_true_eq] at hid
  by_cases hb : n0 <= id
  ·exact hE id hb hid.2
  ·omega
end
def MvTo (lim n0 : Nat) (V H : List Nat) (ps : List (Nat × Nat)) (st s : St) : Prop :=
 (⟨mvV (mvF ps) (pickL V st.vars), mvH (mvF ps) (pickL H st.heap), s.nx⟩ : St) = s /\ n0 <= s.nx /\ s.nx <= lim /\ mvOk ps n0 s.nx (idsV (pickL V st.vars) ++ idsH (pickL H st.heap)) = true
theorem Rel.mvTo {E : En} {n lim n0 : Nat} {F : FrS} {a : Act} {w : World} {g : Gh} {st s : St} {V H : List Nat} {ps : List (Nat × Nat)} (hF : F.on lim st) (h : Rel E n F a w g) (hE : ∀ id, n0 <= id -> id < lim -> E.nu0 id = true) (hm : MvTo lim n0 V H ps st s) :
  ∃ F' g', F'.on lim s /\ Rel E n F' a w g' := by
 obtain ⟨h1, h2, h3, h4⟩ := hm
 obtain ⟨F1, hF1, hR1⟩ := h.sub hF (sub_of V H st (nx := st.nx) (Nat.le_refl _))
 obtain ⟨F2, g2, hF2, hR2⟩ := hR1.move hF1 ps n0 s.nx h2 h3 hE h4
 rw [h1] at hF2
 exact ⟨F2, g2, hF2, hR2⟩
abbrev uC : Nat := 9223372036854775808
theorem Wk.unk (id s off len : Nat) (oc : Option Nat) : Wk (.ref id s off len oc) (.ref id s off len (some uC)) := fun _ _ h => rep_unk h rfl
section
variable {π : Nat -> Nat}
mutual
theorem ren_ren (hπ : ∀ i, π (π i) = i) : ∀ d : D, (d.ren π).ren π = d
 | .agg l => by simp only [D.ren, zhp hπ l]
 | .ref id s off len oc => by simp only [D.ren, hπ]
 | .ptr id off => by simp only [D.ren, hπ]
 | .eptr id s i off => by simp only [D.ren, hπ]
 | .mref id => by simp only [D.ren, hπ]
 | .tuple l => by simp only [D.ren, zhp hπ l]
 | .fn g l => by simp only [D.ren, zhp hπ l]
 | .iface t d => by simp only [D.ren, ren_ren hπ d]
 | .when c d => by simp only [D.ren, ren_ren hπ d]
 | .bool _ | .int _ _ | .str _ | .imm _ _ _ | .iptr _ _ | .nilptr | .nilfn | .nilIface | .nilmap | .undef => by simp only [D.ren]
theorem zhp (hπ : ∀ i, π (π i) = i) : ∀ l : List D, D.renL π (D.renL π l) = l
 | [] => by simp only [D.renL]
 | d :: ds => by simp only [D.renL, ren_ren hπ d, zhp hπ ds]
end
theorem renEs_renEs (hπ : ∀ i, π (π i) = i) : ∀ l : List (D × D), renEs π (renEs π l) = l
 | [] => by simp only [renEs]
 | x :: xs => by simp only [renEs, ren_ren hπ, renEs_renEs hπ xs]
theorem blk_ren_ren (hπ : ∀ i, π (π i) = i) : ∀ b : Blk, (b.ren π).ren π = b
 | .box _ => by simp only [Blk.ren, zhp hπ]
 | .arr _ _ true _ => by simp only [Blk.ren, cond_true]
 | .arr _ _ false _ => by simp only [Blk.ren, cond_false, zhp hπ]
 | .map _ => by simp only [Blk.ren, renEs_renEs hπ]
theorem pi_inj (hπ : ∀ i, π (π i) = i) {i j : Nat} (h : π i = π j) : i = j := by rw [<- hπ i, h, hπ]
def renGh (π : Nat -> Nat) (g : Gh) : Gh := ⟨fun i => g.σ (π i), g.Z, g.zn⟩
def renHp (π : Nat -> Nat) (hp : Nat -> Option Blk) : Nat -> Option Blk := fun i => (hp (π i)).map (Blk.ren π)
theorem zla {hp : Nat -> Option Blk} {i : Nat} : renHp π hp i ≠ none ↔ hp (π i) ≠ none := by simp [renHp]
theorem zlb (hπ : ∀ i, π (π i) = i) {g : Gh} {hp : Nat -> Option Blk} {b : Nat} : ownB (renGh π g) (renHp π hp) b ↔ ownB g hp b := by
 constructor
 ·rintro ⟨id, o, h1, h2⟩
  exact ⟨π id, o, zla.1 h1, h2⟩
 ·rintro ⟨id, o, h1, h2⟩
  exact ⟨π id, o, by rw [zla, hπ]; exact h1, by show g.σ (π (π id)) = _; rw [hπ]; exact h2⟩
theorem mv_ren (hπ : ∀ i, π (π i) = i) (w : World) (g : Gh) (hp : Nat -> Option Blk) : Mv π (fun _ => True) (cx w g hp) (cx w (renGh π g) (renHp π hp)) :=
 ⟨rfl, rfl, rfl, rfl, rfl, fun _ h => (zlb hπ).1 h, fun i _ => by show g.σ (π (π i)) = g.σ i; rw [hπ]⟩
theorem Mem.ren (hπ : ∀ i, π (π i) = i) {fr : Nat} {w : World} {g : Gh} {hp : Nat -> Option Blk} {nu nu' : Nat -> Bool} (h : Mem fr w g hp nu) (hnu : ∀ id, nu' id = true -> nu (π id) = true) : Mem fr w (renGh π g) (renHp π hp) nu' := by
 refine ⟨fun id blk hb => ?_, fun id id' b o o' k1 k2 k3 k4 => ?_, fun id hid => ?_, ?_, h.fl⟩
 ·unfold renHp at hb
  cases hx : hp (π id) with
  | none => rw [hx] at hb; cases hb
  | some b0 =>
   rw [hx] at hb
   cases hb
   have := holds_mv (mv_ren hπ w g hp) (id := π id) (blk := b0) trivial (fun _ _ => trivial) (h.hd _ _ hx)
   rwa [hπ] at this
 ·exact pi_inj hπ (h.inj (π id) (π id') b o o' (zla.1 k1) (zla.1 k2) k3 k4)
 ·obtain ⟨h1, h2⟩ := h.nw (π id) (hnu id hid)
  exact ⟨h1, by simp [renHp, h2]⟩
 ·refine ⟨h.zs.z0, h.zs.z1, h.zs.z2, fun m Zm hm hz b hb => ?_, fun b hb => h.zs.zo b ((zlb hπ).1 hb)⟩
  obtain ⟨e1, e2, e3, e4, e5⟩ := h.zs.zr m Zm hm hz b hb
  exact ⟨e1, e2, e3, fun hx => e4 ((zlb hπ).1 hx), e5⟩
def renE (π : Nat -> Nat) : List (Nat × Option Blk) -> List (Nat × Option Blk)
 | [] => []
 | (i, some b) :: r => (π i, some (b.ren π)) :: renE π r
 | (i, none) :: r => (π i, none) :: renE π r
theorem getL_renE (hπ : ∀ i, π (π i) = i) : ∀ (l : List (Nat × Option Blk)) (i : Nat), getL (renE π l) i = (getL l (π i)).map (Option.map (Blk.ren π))
 | [], _ => rfl
 | (a, x) :: r, i => by
  have ih := getL_renE hπ r i
  have hb : Nat.beq (π a) i = Nat.beq a (π i) := by
   by_cases e : π a = i
   ·subst e; rw [hπ]; simp
   ·rw [zbs e, zbs (fun e' => e (by rw [e', hπ]))]
  cases x <;> simp only [renE, getL, hb, ih] <;> cases Nat.beq a (π i) <;> rfl
theorem getL_mvHr (hπ : ∀ i, π (π i) = i) : ∀ (l : List (Nat × Blk)) (i : Nat), getL (mvH π l) i = (getL l (π i)).map (Blk.ren π)
 | [], _ => rfl
 | (a, x) :: r, i => by
  have ih := getL_mvHr hπ r i
  have hb : Nat.beq (π a) i = Nat.beq a (π i) := by
   by_cases e : π a = i
   ·subst e; rw [hπ]; simp
   ·rw [zbs e, zbs (fun e' => e (by rw [e', hπ]))]
  simp only [mvH, getL, hb, ih]
  cases Nat.beq a (π i) <;> rfl
theorem zly (hπ : ∀ i, π (π i) = i) {P : Program} {K : FuncId} {args : List D} {H : List (Nat × Blk)} {r : D} {eff : List (Nat × Option Blk)} {nw : Nat × Nat} (nw' : Nat × Nat) (hnw : ∀ id, nw.1 <= id -> id < nw.2 -> nw'.1 <= π id /\ π id < nw'.2) (h : CallH P K args H r eff nw) :
  CallH P K (D.renL π args) (mvH π H) (r.ren π) (renE π eff) nw' := by
 refine ⟨h.1, fun fr w g hp nu vs hM hH hn hvs => ?_⟩
 have hmv := mv_ren hπ w g hp
 have hargs := zm8 hmv _ _ (fun _ _ => trivial) hvs
 rw [zhp hπ] at hargs
 have hM1 : Mem fr w (renGh π g) (renHp π hp) (fun i => nu (π i)) := hM.ren hπ fun _ h => h
 refine (h.2 fr w (renGh π g) (renHp π hp) (fun i => nu (π i)) vs hM1 (fun id b hb => ?_) (fun id h1 h2 => ?_) hargs).mono ?_
 ·have := hH (π id) (b.ren π) (by rw [getL_mvHr hπ, hπ, hb]; rfl)
  simp only [renHp, this, Option.map_some, blk_ren_ren hπ]
 ·obtain ⟨k1, k2⟩ := hnw id h1 h2
  exact hn (π id) k1 k2
 rintro e w' ⟨v, g1, rfl, hA⟩
 refine ⟨v, renGh π g1, rfl, ?_⟩
 have hpe : renHp π (effH (renHp π hp) eff) = effH hp (renE π eff) := by
  funext i
  unfold effH
  rw [getL_renE hπ]
  simp only [renHp]
  cases hg : getL eff (π i) with
  | none =>
   simp only [Option.map_none, hπ, Option.map_map]
   cases hp i with
   | none => rfl
   | some b => simp only [Option.map_some, Function.comp, blk_ren_ren hπ]
  | some ob => rfl
 refine ⟨hA.gz, fun id hid => ?_, ?_, ?_, ?_, ?_⟩
 ·have := hA.gs (π id) (by show nu (π (π id)) = false; rw [hπ]; exact hid)
  show g1.σ (π id) = g.σ id
  rw [this]
  show g.σ (π (π id)) = _
  rw [hπ]
 ·refine hA.keep.mono ?_
  rintro b _ ⟨id, o, h1, h2, h3⟩
  refine ⟨π id, o, ?_, zla.1 h2, h3⟩
  show getL (mvH π H) (π id) ≠ none
  rw [getL_mvHr hπ, hπ]
  simpa using h1
 ·have := hA.mem.ren hπ (nu' := effN nu nw') fun id hid => by
   simp only [effN, Bool.and_eq_true, Bool.not_eq_true', Bool.and_eq_false_iff, decide_eq_false_iff_not, hπ] at hid ⊢
   refine ⟨hid.1, ?_⟩
   by_cases h1 : nw.1 <= π id
   ·by_cases h2 : π id < nw.2
    ·obtain ⟨k1, k2⟩ := hnw (π id) h1 h2
     rw [hπ] at k1 k2
     rcases hid.2 with h | h <;> omega
    ·exact .inr h2
   ·exact .inl h1
  rwa [hpe] at this
 ·intro b hb
  rw [<- hpe] at hb
  rcases hA.own b ((zlb hπ).1 hb) with h | h
  ·exact .inl h
  ·exact .inr ((zlb hπ).1 h)
 ·have := zn0 (mv_ren hπ w' g1 (effH (renHp π hp) eff)) r v (fun _ _ => trivial) hA.res
  rwa [hpe] at this
end
def bsw (a b m i : Nat) : Nat := bif Nat.ble a i && Nat.blt i (a + m) then b + (i - a) else bif Nat.ble b i && Nat.blt i (b + m) then a + (i - b) else i
theorem bsw_bsw {a b m : Nat} (h : a + m <= b) (i : Nat) : bsw a b m (bsw a b m i) = i := by
 have c1 : ∀ x y : Nat, (Nat.ble x y = true ↔ x <= y) := fun x y => ⟨Nat.le_of_ble_eq_true, Nat.ble_eq_true_of_le⟩
 have c2 : ∀ x y : Nat, (Nat.blt x y = true ↔ x < y) := fun x y => ⟨fun h => Nat.le_of_ble_eq_true h, fun h => Nat.ble_eq_true_of_le h⟩
 unfold bsw
 cases h1 : (Nat.ble a i && Nat.blt i (a + m))
 ·cases h2 : (Nat.ble b i && Nat.blt i (b + m))
  ·simp only [cond_false, h1, h2]
  ·simp only [Bool.and_eq_true, c1, c2] at h2
   have e1 : (Nat.ble a (a + (i - b)) && Nat.blt (a + (i - b)) (a + m)) = true := by simp only [Bool.and_eq_true, c1, c2]; omega
   simp only [cond_false, cond_true, e1]
   omega
 ·simp only [Bool.and_eq_true, c1, c2] at h1
  have e1 : (Nat.ble a (b + (i - a)) && Nat.blt (b + (i - a)) (a + m)) = false := by
   rw [<- Bool.not_eq_true]; simp only [Bool.and_eq_true, c1, c2]; omega
  have e2 : (Nat.ble b (b + (i - a)) && Nat.blt (b + (i - a)) (b + m)) = true := by simp only [Bool.and_eq_true, c1, c2]; omega
  simp only [cond_false, cond_true, e1, e2]
  omega
def sw (a b i : Nat) : Nat := bif Nat.beq i a then b else bif Nat.beq i b then a else i
theorem sw_sw (a b i : Nat) : sw a b (sw a b i) = i := by
 unfold sw
 by_cases h1 : i = a
 ·subst h1
  by_cases h2 : i = b
  ·subst h2; simp
  ·simp [zbs (Ne.symm h2)]
 ·by_cases h2 : i = b
  ·subst h2; simp [zbs h1]
  ·simp [zbs h1, zbs h2]
mutual
def frz (hp : Nat -> Option Blk) : D -> D × Bool
 | .ref id s off len _ => match hp id with
  | some (.arr _ s' p items) => (.imm s (unfL ((items.drop off).take len)) 12, Nat.beq s s' && Nat.ble (off + len) items.length && p && okML new1 ((items.drop off).take len) && (D.idsL ((items.drop off).take len)).isEmpty)
  | _ => (.undef, false)
 | .imm s l c => (.imm s l c, new1 (c / 8) || l.isEmpty)
 | .agg l => (.agg (frzs hp l).1, (frzs hp l).2)
 | .tuple l => (.tuple (frzs hp l).1, (frzs hp l).2)
 | .iface t d => (.iface t (frz hp d).1, (frz hp d).2)
 | .bool b => (.bool b, true)
 | .int k n => (.int k n, true)
 | .str l => (.str l, true)
 | .nilptr => (.nilptr, true)
 | .nilfn => (.nilfn, true)
 | .nilIface => (.nilIface, true)
 | .nilmap => (.nilmap, true)
 | _ => (.undef, false)
def frzs (hp : Nat -> Option Blk) : List D -> List D × Bool
 | [] => ([], true)
 | d :: ds => ((frz hp d).1 :: (frzs hp ds).1, (frz hp d).2 && (frzs hp ds).2)
end
theorem frz_inner {fr : Nat} {w : World} {g : Gh} {hp : Nat -> Option Blk} : ((cx w g hp).at fun b => fr <= b).Le ((cx0 w fr).at fun b => fr <= b) :=
 Cx.Le.inner (C := cx w g hp) (C' := cx0 w fr) (fun _ _ => rfl) fun _ _ h2 _ => ⟨fun h => h, h2, rfl⟩
mutual
theorem frz_ok {fr : Nat} {w : World} {g : Gh} {hp : Nat -> Option Blk} (hd : ∀ id blk, hp id = some blk -> holds (cx w g hp) id blk) (hz : g.zn 1 = some fun b => fr <= b) (ho : ∀ b, ownB g hp b -> fr <= b) : ∀ (d : D) (v : Value), rep (cx w g hp) d v -> (frz hp d).2 = true -> rep (cx0 w fr) (frz hp d).1 v
 | .ref id s off len oc, v, h, hp' => by
  simp only [frz] at hp' ⊢
  split at hp'
  ·rename_i e s' p items hb
   simp only [Bool.and_eq_true, List.isEmpty_iff] at hp' ⊢
   obtain ⟨⟨⟨⟨h1, hl⟩, rfl⟩, hk⟩, hi⟩ := hp'
   obtain rfl := Nat.eq_of_beq_eq_true h1
   have hl := Nat.le_of_ble_eq_true hl
   simp only [rep] at h
   obtain ⟨_, ad, cap, rfl, h1, h2, h3, _, h4⟩ := h
   have hlen : (unfL ((items.drop off).take len)).length = len := by rw [zit]; simp; omega
   simp only [rep]
   refine ⟨ad, cap, by rw [hlen], by omega, h2, by simp, by simp, by simp, h3, fun _ => rfl, ?_⟩
   by_cases hz0 : len = 0
   ·left; subst hz0; simp [unfL]
   right
   rcases h4 with h4 | ⟨b, T, nn, hσ, rfl, hsh, hn⟩
   ·omega
   rcases hd id _ hb with ⟨rfl, _⟩ | ⟨b', cs, hσ', hblk, hsz, hel⟩
   ·simp at hl; omega
   have e := hσ'.symm.trans hσ
   simp only [Option.some.injEq, Prod.mk.injEq] at e
   obtain ⟨rfl, _⟩ := e
   intro Z' hZ'
   have hZ' : (fun b => fr <= b) = Z' := by simpa [Cx.zone, cx0] using hZ'
   subst hZ'
   refine ⟨_, rfl, rfl, fun h => h, ho _ ⟨id, 0, by rw [hb]; simp, hσ⟩, (Array.getElem?_eq_some_iff.1 hblk).1, ?_⟩
   have he := zes _ len _ _ _ (zg7 _ off _ _ _ hel)
   have he2 := zmj (C := { cx w g hp with rf := !true }) (q := new1) (Zt := fun b => fr <= b) (fun m hm => ⟨fun b => fr <= b, by
    obtain rfl : m = 1 := Nat.eq_of_beq_eq_true hm
    simpa [Cx.zone, cx] using hz, fun b _ hb _ => hb⟩) _ _ _ _ hk hi he
   rw [Nat.zero_add] at he2
   exact zdx (C := (cx w g hp).at fun b => fr <= b) frz_inner _ _ _ _ rfl he2
  ·cases hp'
 | .imm s l c, v, h, hp' => by
  simp only [frz, Bool.or_eq_true, List.isEmpty_iff] at hp' ⊢
  simp only [rep] at h ⊢
  obtain ⟨a, cap, rfl, h1, h2, h3, h4, h5, h6, hfl, h7⟩ := h
  refine ⟨a, cap, rfl, h1, h2, h3, h4, h5, h6, fun _ => rfl, ?_⟩
  rcases h7 with h7 | h7
  ·exact .inl h7
  rcases hp' with hk | hk
  ·right
   intro Z' hZ'
   have hc : c / 8 = 1 := Nat.eq_of_beq_eq_true hk
   rw [hc] at hZ'
   have hZ' : (fun b => fr <= b) = Z' := by simpa [Cx.zone, cx0] using hZ'
   subst hZ'
   obtain ⟨a0, ha, hs, hM, hlo, hb, he⟩ := h7 (fun b => fr <= b) (by rw [hc]; simpa [Cx.zone, cx] using hz)
   exact ⟨a0, ha, hs, fun h => h, hlo, hb, zdx (C := (cx w g hp).at fun b => fr <= b) frz_inner _ _ _ _ rfl he⟩
  ·exact .inl hk
 | .agg l, v, h, hp' => by
  simp only [frz] at hp' ⊢
  simp only [rep] at h ⊢
  obtain ⟨cs, rfl, h⟩ := h
  exact ⟨cs, rfl, frzs_ok hd hz ho l cs h hp'⟩
 | .tuple l, v, h, hp' => by
  simp only [frz] at hp' ⊢
  simp only [rep] at h ⊢
  obtain ⟨cs, rfl, h⟩ := h
  exact ⟨cs, rfl, frzs_ok hd hz ho l cs h hp'⟩
 | .iface t d, v, h, hp' => by
  simp only [frz] at hp' ⊢
  simp only [rep] at h ⊢
  obtain ⟨x, rfl, h⟩ := h
  exact ⟨x, rfl, frz_ok hd hz ho d x h hp'⟩
 | .bool b, v, h, _ => by simpa only [frz, rep] using h
 | .int k n, v, h, _ => by simpa only [frz, rep] using h
 | .str l, v, h, _ => by simpa only [frz, rep] using h
 | .nilptr, v, h, _ => by simpa only [frz, rep] using h
 | .nilfn, v, h, _ => by simpa only [frz, rep] using h
 | .nilIface, v, h, _ => by simpa only [frz, rep] using h
 | .nilmap, v, h, _ => by simpa only [frz, rep] using h
 | .ptr _ _, _, _, hp' | .eptr _ _ _ _, _, _, hp' | .iptr _ _, _, _, hp' | .fn _ _, _, _, hp' | .mref _, _, _, hp' | .when _ _, _, _, hp' | .undef, _, _, hp' => by simp [frz] at hp'
theorem frzs_ok {fr : Nat} {w : World} {g : Gh} {hp : Nat -> Option Blk} (hd : ∀ id blk, hp id = some blk -> holds (cx w g hp) id blk) (hz : g.zn 1 = some fun b => fr <= b) (ho : ∀ b, ownB g hp b -> fr <= b) : ∀ (l : List D) (vs : List Value), reps (cx w g hp) l vs -> (frzs hp l).2 = true -> reps (cx0 w fr) (frzs hp l).1 vs
 | [], vs, h, _ => by simp only [reps, frzs] at h ⊢; exact h
 | d :: ds, vs, h, hp' => by
  simp only [frzs, Bool.and_eq_true] at hp' ⊢
  simp only [reps] at h ⊢
  obtain ⟨v, vs', rfl, h1, h2⟩ := h
  exact ⟨v, vs', rfl, frz_ok hd hz ho d v h1 hp'.1, frzs_ok hd hz ho ds vs' h2 hp'.2⟩
end
mutual
theorem okM_frz {hp : Nat -> Option Blk} : ∀ d : D, (frz hp d).2 = true -> okM new1 (frz hp d).1 = true
 | .ref id s off len oc, h => by
  simp only [frz] at h ⊢
  split at h
  ·simp [okM, new1]
  ·cases h
 | .imm s l c, h => by simpa only [frz, okM] using h
 | .agg l, h => by
  simp only [frz] at h ⊢
  simp only [okM]; exact okMs_frz l h
 | .tuple l, h => by
  simp only [frz] at h ⊢
  simp only [okM]; exact okMs_frz l h
 | .iface t d, h => by
  simp only [frz] at h ⊢
  simp only [okM]; exact okM_frz d h
 | .bool _, _ | .int _ _, _ | .str _, _ | .nilptr, _ | .nilfn, _ | .nilIface, _ | .nilmap, _ => by simp only [frz, okM]
 | .ptr _ _, h | .eptr _ _ _ _, h | .iptr _ _, h | .fn _ _, h | .mref _, h | .when _ _, h | .undef, h => by simp [frz] at h
theorem okMs_frz {hp : Nat -> Option Blk} : ∀ l : List D, (frzs hp l).2 = true -> okML new1 (frzs hp l).1 = true
 | [], _ => by simp only [frzs, okML]
 | d :: ds, h => by
  simp only [frzs, Bool.and_eq_true] at h
  simp only [frzs, okML, okM_frz d h.1, okMs_frz ds h.2, Bool.and_self]
end
theorem zgs {P : Program} {K : FuncId} {args : List D} {r r' : D} {eff : List (Nat × Option Blk)} {nw : Nat × Nat} (hr : frz (effH (fun _ => none) eff) r = (r', true)) (h : CallH P K args [] r eff nw) : CallP P K args r' := by
 refine ⟨h.1, fun w vs hvs => ?_⟩
 let g : Gh := ⟨fun _ => none, fun _ => True, fun m => if m = 1 then some (fun x => w.heap.size <= x) else if m = 2 then some (fun x => x < w.heap.size) else none⟩
 have hM : Mem w.heap.size w g (fun _ => none) (fun _ => true) := by
  refine ⟨(fun id blk h => by cases h), fun id id' b o o' h => absurd rfl h, fun id _ => ⟨rfl, rfl⟩, ⟨fun _ _ => trivial, ⟨_, rfl, fun x hx => ⟨hx, trivial⟩, fun x hx => hx⟩, ⟨_, rfl, fun x hx => ⟨hx, trivial⟩⟩, ?_, fun b hb => by obtain ⟨id, o, h1, _⟩ := hb; exact absurd rfl h1⟩, Nat.le_refl _⟩
  intro m Zm hm hz
  have : g.zn m = none := by
   simp only [g]
   rw [if_neg (by omega), if_neg (by omega)]
  rw [this] at hz; cases hz
 have hle : Cx.Le (cx0 w w.heap.size) (cx w g fun _ => none) := by
  refine ⟨fun m _ Z' hZ' => ⟨Z', hZ', fun b _ k2 k3 => ⟨?_, k2, .refl k3⟩⟩, fun _ _ => rfl, fun _ => rfl, (fun x => by cases x), (fun x => by cases x)⟩
  rintro ⟨id, o, h1, _⟩
  exact h1 rfl
 refine (h.2 w.heap.size w g (fun _ => none) (fun _ => true) vs hM (fun id b h => by cases h) (fun _ _ _ => rfl) (zfc hle _ _ hvs)).mono ?_
 rintro ee w' ⟨v, g', he, ha⟩
 have h1 : r' = (frz (effH (fun _ => none) eff) r).1 := by rw [hr]
 have h2 : (frz (effH (fun _ => none) eff) r).2 = true := by rw [hr]
 refine ⟨v, he, ha.keep.mono ?_, by rw [h1]; exact okM_frz _ h2, ?_⟩
 ·rintro i _ ⟨id, o, h1, _⟩
  exact h1 rfl
 rw [h1]
 refine frz_ok ha.mem.hd ?_ (fun b hb => ?_) r v ha.res h2
 ·rw [ha.gz.2]; rfl
 ·rcases ha.own b hb with h | ⟨id, o, h, _⟩
  ·exact h
  ·exact absurd rfl h
end Go.Tm
end

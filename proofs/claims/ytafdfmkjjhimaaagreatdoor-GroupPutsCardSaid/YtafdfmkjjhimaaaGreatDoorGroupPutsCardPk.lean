/- Texts of the proof. -/
import Derived.RangeFuncIn
import Derived.RangeFuncLeaves
import Derived.RangeFuncRecord
import Derived.WalkKit
import Derived.Test.YtafdfmkjjhimaaaGreatDoorGroupPutsCardPj
import Derived.Test.YtafdfmkjjhimaaaGreatDoorGroupPutsCardPg
namespace Go.Tm
open Go.RowKit Go.WideShapes
set_option linter.unusedVariables false
inductive Vm where
 | nil
 | node (v : D) (a b c d : Vm)
noncomputable def sel4 {α : Type} (i : Nat) (a b c d : α) : α := Nat.rec (motive := fun _ => α) a (fun i _ => Nat.rec (motive := fun _ => α) b (fun i _ => Nat.rec (motive := fun _ => α) c (fun _ _ => d) i) i) i
noncomputable def Vm.get (m : Vm) : Nat -> D :=
 Vm.rec (motive := fun _ => Nat -> D) (fun _ => .undef) (fun v _ _ _ _ ia ib ic id t => Nat.rec (motive := fun _ => D) v (fun k _ => sel4 (Nat.mod k 4) ia ib ic id (Nat.div k 4)) t) m
noncomputable def Vm.single (y : D) (n : Nat) : Nat -> Vm :=
 Nat.rec (motive := fun _ => Nat -> Vm) (fun _ => .nil) (fun _ ih t => Nat.rec (motive := fun _ => Vm) (.node y .nil .nil .nil .nil) (fun k _ =>
  sel4 (Nat.mod k 4) (.node .undef (ih (Nat.div k 4)) .nil .nil .nil) (.node .undef .nil (ih (Nat.div k 4)) .nil .nil) (.node .undef .nil .nil (ih (Nat.div k 4)) .nil) (.node .undef .nil .nil .nil (ih (Nat.div k 4)))) t) n
noncomputable def Vm.put (m : Vm) (y : D) : Nat -> Vm :=
 Vm.rec (motive := fun _ => Nat -> Vm) (fun t => Vm.single y (Nat.succ t) t) (fun v a b c d ia ib ic id t => Nat.rec (motive := fun _ => Vm) (.node y a b c d) (fun k _ =>
  sel4 (Nat.mod k 4) (.node v (ia (Nat.div k 4)) b c d) (.node v a (ib (Nat.div k 4)) c d) (.node v a b (ic (Nat.div k 4)) d) (.node v a b c (id (Nat.div k 4)))) t) m
noncomputable def putQ {α : Type} (l : List (Nat × α)) (t : Nat) (y : α) : List (Nat × α) :=
 List.rec (motive := fun _ => List (Nat × α)) [(t, y)] (fun p r ih => Bool.rec (motive := fun _ => List (Nat × α)) (p :: ih) ((p.1, y) :: r) (Nat.beq p.1 t)) l
noncomputable def delQ {α : Type} (l : List (Nat × α)) (t : Nat) : List (Nat × α) :=
 List.rec (motive := fun _ => List (Nat × α)) [] (fun p r ih => Bool.rec (motive := fun _ => List (Nat × α)) (p :: ih) ih (Nat.beq p.1 t)) l
noncomputable def ya8u (h : List (Nat × Blk)) (l : List (Nat × Option Blk)) : List (Nat × Blk) :=
 List.rec (motive := fun _ => List (Nat × Blk)) h (fun p _ ih => Option.rec (motive := fun _ => List (Nat × Blk)) (delQ ih p.1) (fun x => putQ ih p.1 x) p.2) l
structure SQ where
 vm : Vm
 heap : List (Nat × Blk)
 nx : Nat
def SQ.is (s : SQ) (st : St) : Prop := getR st.vars = s.vm.get /\ st.heap = s.heap /\ st.nx = s.nx
noncomputable def SQ.app (s : SQ) (dst : Option Nat) (out : Out) : SQ :=
 ⟨match dst with | some t => s.vm.put out.d t | none => s.vm, ya8u s.heap out.eff, bif Nat.blt out.nw.1 out.nw.2 then out.nw.2 else s.nx⟩
abbrev CallF := FuncId -> List D -> List (Nat × Blk) -> Nat -> Option Out
section
variable {call : CallF} {tab : Nat -> TI}
end
section
variable {P : Program} {tab : Nat -> TI} (hT : zgy P tab) (hm : P.follows .mixedOrders = true) {ft : Nat -> Option Func} {pt : Nat -> Nat -> List (Nat × Nat)} (hft : FtOk P ft pt) {LF n : Nat} {l : List Ent}
end
def zkm (r : Option Nat) : Fence := { Fence.wide with round := r }
def zg2 (a : Act) : Act := { tmps := a.tmps, defers := [] }
def zqv (a : Act) (ds : List Deferred) : Act := { tmps := a.tmps, defers := ds }
theorem zm7 (a : Act) (ds : List Deferred) (dst : Option Tmp) (v : Value) : (zqv a ds).put dst v = zqv (a.put dst v) ds := by
 cases dst <;> rfl
theorem zfr (a : Act) (dst : Option Tmp) (v : Value) : (a.put dst v).defers = a.defers := by
 cases dst <;> rfl
theorem zz9 (a : Act) (ds : List Deferred) : (zqv a ds).eval = a.eval := by
 funext x; cases x <;> rfl
theorem ztq (a : Act) : (zg2 a).eval = a.eval := by
 funext x; cases x <;> rfl
section
variable {P : Program} {ops : Array Oper} {R : Act -> World -> Prop}
theorem ya4n {o : Oper} {a : Act} {next : Act -> World -> Prop} (hn : ∀ a w, next a w -> a.defers = []) {res : Result Next} (h : o.upon P a next (fun e a w => e = .normal /\ R a w) res) : a.defers = [] := by
 cases res with
 | ok n w' =>
  cases n with
  | value v => rw [<- zfr a o.dst v]; exact hn _ _ h
  | skip => rw [<- zfr a o.dst undef]; exact hn _ _ h
  | defer d =>
   have := hn _ _ h
   rw [zfr] at this
   cases this
  | enter f args =>
   obtain ⟨e, w'', fr, hq, _⟩ := (show Calls P f args w' _ from h) []
   cases e with
   | returned v => have := hn _ _ hq; rwa [zfr] at this
   | panicked ch => cases hq.1
   | outgrown => obtain ⟨_, _, h1, _⟩ := hq; cases h1
  | row row args =>
   obtain ⟨v, w'', hq, _⟩ := (show Go.Rows P row args w' _ from h) default []
   have := hn _ _ hq; rwa [zfr] at this
  | _ => exact h.elim
 | halt x w' =>
  cases x with
  | panic v => cases (show Exit.panic _ = Exit.normal /\ _ from h).1
  | _ => exact h.elim
theorem zny (hR : ∀ a w, R a w -> a.defers = []) : ∀ (l : List Nat) (a : Act) (w : World), wpOps P ops (fun e a w => e = .normal /\ R a w) l a w -> a.defers = []
 | [], a, w, h => hR a w h.2
 | i :: l, a, w, h => by
  simp only [wpOps] at h
  split at h
  exact zny hR l a w h
  rename_i o _
  split at h
  rcases h with h | ⟨_, _, _, h, _⟩
  exact ya4n (zny hR l) h
  cases h
  have := zny hR l _ w h
  rwa [zfr] at this
theorem zz7 {r : Option Nat} {n : Nat} {f : FuncId} {args : Array Value} {w : World} {R : Ending -> World -> Prop} (h : Calls P f args w R) : CallsIn (zkm r) n P f args w R :=
 show CallsIn Fence.wide n P f args w R from callsIn_wide.2 h
theorem ya4u {r : Option Nat} {n : Nat} {row : String} {args : Array Value} {w : World} {R : Value -> World -> Prop} (h : Go.Rows P row args w R) : RowsIn (zkm r) n P row args w R :=
 fun c cs _ => let ⟨v, w', h1, h2⟩ := h c cs; ⟨v, w', h1, (show StepsIn (Machine.fenced P Fence.wide) P _ _ from stepsIn_wide.2 h2)⟩
theorem ya4m {r : Option Nat} {n : Nat} {o : Oper} {a : Act} {ds : List Deferred} {next next' : Act -> World -> Prop} {Q' : Exit -> Act -> World -> Prop} (hn : ∀ a w, next a w -> a.defers = []) (hnn : ∀ a w, next a w -> next' (zqv a ds) w) {res : Result Next}
  (h : o.upon P a next (fun e a w => e = .normal /\ R a w) res) : o.uponIn (zkm r) n P (zqv a ds) next' Q' res := by
 cases res with
 | ok x w' =>
  cases x with
  | value v => rw [Oper.uponIn_value, zm7]; exact hnn _ _ h
  | skip => rw [Oper.uponIn_skip, zm7]; exact hnn _ _ h
  | defer d =>
   have := hn _ _ (show next _ w' from h)
   rw [zfr] at this
   cases this
  | enter f args =>
   rw [Oper.uponIn_enter]
   refine ⟨nofun, zz7 (Calls.mono h fun e w'' hq => ?_)⟩
   cases e with
   | returned v =>
    show next' ((zqv a ds).put o.dst v) w''
    rw [zm7]; exact hnn _ _ hq
   | panicked ch => cases hq.1
   | outgrown => obtain ⟨_, _, h1, _⟩ := hq; cases h1
  | row row args =>
   rw [Oper.uponIn_row]
   exact ⟨nofun, ya4u (Go.Rows.mono h fun v w'' hq => by rw [zm7]; exact hnn _ _ hq)⟩
  | _ => exact h.elim
 | halt x w' =>
  cases x with
  | panic v => cases (show Exit.panic _ = Exit.normal /\ _ from h).1
  | _ => exact h.elim
theorem zmt (hR : ∀ a w, R a w -> a.defers = []) (r : Option Nat) (n : Nat) (ds : List Deferred) : ∀ (l : List Nat) (a : Act) (w : World), wpOps P ops (fun e a w => e = .normal /\ R a w) l a w ->
  wpOpsIn (zkm r) n P ops (fun e a' w' => e = .normal /\ a'.defers = ds /\ R (zg2 a') w') l (zqv a ds) w
 | [], a, w, h => by
  refine ⟨rfl, rfl, ?_⟩
  have hd := hR a w h.2
  have : zg2 (zqv a ds) = a := by cases a; cases hd; rfl
  rw [this]; exact h.2
 | i :: l, a, w, h => by
  simp only [wpOps] at h
  simp only [wpOpsIn]
  cases ho : ops[i]? with
  | none =>
   simp only [ho] at h ⊢
   exact zmt hR r n ds l a w h
  | some o =>
   simp only [ho] at h ⊢
   have ht : (zqv a ds).tmps = a.tmps := rfl
   rw [ht]
   split at h
   rename_i hw
   rw [if_pos hw]
   rcases h with h | ⟨_, _, _, h, _⟩
   refine ⟨fun _ _ => trivial, ?_⟩
   by_cases hdf : ∃ c, o.op = .defer c
   exfalso
   obtain ⟨c, hc⟩ := hdf
   unfold Oper.wp at h
   have he : execOp a.eval o = (do pure (.defer (<- resolve a.eval c o.type)) : Sem Next) := by unfold execOp; rw [hc]
   rw [he, Sem.run_bind] at h
   cases hr : (resolve a.eval c o.type).run P w with
   | ok d w' =>
    rw [hr] at h
    simp only [Result.andThen_ok, Sem.run_pure] at h
    have := zny hR l _ w' h
    rw [zfr] at this
    cases this
   | halt x w' =>
    rw [hr] at h
    cases x with
    | panic v => cases (show Exit.panic _ = Exit.normal /\ _ from h).1
    | _ => exact h.elim
   rw [Oper.semAt_eq _ _ _ (fun c hc => hdf ⟨c, hc⟩), zz9]
   exact ya4m (zny hR l) (zmt hR r n ds l) h
   cases h
   rename_i hw
   rw [if_neg hw]
   refine ⟨fun _ _ => trivial, ?_⟩
   rw [zm7]
   exact zmt hR r n ds l _ w h
end
def mark (D : Nat) : Deferred := { target := .collected D, args := #[] }
def zxr (E : En) (ds : List Deferred) (w : World) : Prop :=
 ∃ Ds : List Nat, ds = Ds.map mark /\ Ds.Nodup /\ ∀ D ∈ Ds, E.w0.heap.size <= D /\ w.heap[D]? = some (.deferred (some []))
section
variable {E : En} {n : Nat} {F F' : FrS} {a a' : Act} {w w' : World} {g g' : Gh}
theorem ya56 {fr : Nat} {hp : Nat -> Option Blk} {nu : Nat -> Bool} (h : Mem fr w g hp nu) {b : Nat} (hb : ownB g hp b) : ∃ o, w.heap[b]? = some o /\ ((∃ cs T f, o = .cells cs T f) \/ ∃ es c, o = .map es c) := by
 obtain ⟨id, o, h1, h2⟩ := hb
 obtain ⟨x, hx⟩ := Option.ne_none_iff_exists'.1 h1
 have hd := h.hd id x hx
 cases x with
 | box cells =>
  obtain ⟨b1, cs, T, k1, k2, _⟩ := hd
  have e := (show g.σ id = some (b1, 0) from k1).symm.trans h2
  simp only [za3, za6] at e
  obtain ⟨rfl, _⟩ := e
  exact ⟨_, k2, .inl ⟨_, _, _, rfl⟩⟩
 | arr e s p items =>
  rcases hd with ⟨_, k1⟩ | ⟨b1, cs, k1, k2, _⟩
  have k1 : g.σ id = none := k1
  rw [h2] at k1; cases k1
  have e := (show g.σ id = some (b1, 0) from k1).symm.trans h2
  simp only [za3, za6] at e
  obtain ⟨rfl, _⟩ := e
  exact ⟨_, k2, .inl ⟨_, _, _, rfl⟩⟩
 | map es =>
  obtain ⟨b1, ens, clock, k1, k2, _⟩ := hd
  have e := (show g.σ id = some (b1, 0) from k1).symm.trans h2
  simp only [za3, za6] at e
  obtain ⟨rfl, _⟩ := e
  exact ⟨_, k2, .inr ⟨_, _, rfl⟩⟩
theorem zma {fr : Nat} {hp : Nat -> Option Blk} {nu : Nat -> Bool} (h : Mem fr w g hp nu) {b : Nat} {o : Obj} (ho : w.heap[b]? = some o) (hc : ∀ cs T f, o ≠ .cells cs T f) (hm : ∀ es c, o ≠ .map es c) : ¬ ownB g hp b := by
 intro hb
 obtain ⟨o', h1, h2⟩ := ya56 h hb
 rw [ho] at h1
 cases h1
 rcases h2 with ⟨cs, T, f, rfl⟩ | ⟨es, c, rfl⟩
 exact hc _ _ _ rfl
 exact hm _ _ rfl
def En.fork (E : En) (w : World) (g : Gh) (F : FrS) : En := ⟨w, E.fr, ownB g F.hp, g, F.nu⟩
theorem Rel.fork (h : Rel E n F a w g) : Rel (E.fork w g F) n F a w g :=
 ⟨h.sz, h.df, h.rd, h.mem, fun id _ o h1 h2 => .inr ⟨id, o, h1, h2⟩, Keep.refl _ _, ⟨rfl, rfl⟩, fun _ _ => rfl, fun _ h => h⟩
theorem Rel.join (h : Rel E n F a w g) (k : Rel (E.fork w g F) n F' a' w' g') : Rel E n F' a' w' g' := by
 refine ⟨k.sz, k.df, k.rd, k.mem, fun id b o h1 h2 => ?_, ?_, ⟨k.gz.1.trans h.gz.1, k.gz.2.trans h.gz.2⟩, fun id hid => ?_, fun id hid => h.nu id (k.nu id hid)⟩
 rcases k.base id b o h1 h2 with hb | ⟨id', o', h3, h4⟩
 exact .inl (zar h.keep.size hb)
 exact h.base id' b o' h3 h4
 refine h.keep.trans (k.keep.mono ?_)
 rintro b _ ⟨id, o, h1, h2⟩
 rcases h.base id b o h1 h2 with hb | hb
 exact .inr hb
 exact .inl hb
 have hf : F.nu id = false := by
  cases hb : F.nu id
  rfl
  rw [h.nu id hb] at hid; cases hid
 exact (k.gs id hf).trans (h.gs id hid)
theorem zxr.keep {ds : List Deferred} (h : zxr E ds w) (hR : Rel E n F a w g) {X : Nat -> Prop} (hK : Keep X w w') (hX : ∀ b, X b -> ownB g F.hp b) : zxr E ds w' := by
 obtain ⟨Ds, rfl, h1, h2⟩ := h
 refine ⟨Ds, rfl, h1, fun D hD => ⟨(h2 D hD).1, ?_⟩⟩
 have hd := (h2 D hD).2
 rw [hK.block D (Array.getElem?_eq_some_iff.1 hd).1 fun hx => zma hR.mem hd (by simp) (by simp) (hX D hx)]
 exact hd
theorem zpx {l : Nat} {o o' : Obj} (hl : w.heap[l]? = some o) (ho : ∀ cs T f, o ≠ .cells cs T f) (ho' : ∀ cs T f, o' ≠ .cells cs T f) (k : Nat) : (w.putObj l o').shape? k = w.shape? k := by
 by_cases e : k = l
 subst e
 unfold World.shape?
 rw [World.putObj_heap_same (Array.getElem?_eq_some_iff.1 hl).1, hl]
 cases o <;> cases o' <;> first | rfl | exact absurd rfl (ho _ _ _) | exact absurd rfl (ho' _ _ _)
 exact zkg (World.putObj_heap_other e)
theorem Rel.setObj (h : Rel E n F a w g) {l : Nat} {o o' : Obj} (hl : w.heap[l]? = some o) (hlt : E.w0.heap.size <= l) (ho : ∀ cs T f, o ≠ .cells cs T f) (hm : ∀ es c, o ≠ .map es c) (ho' : ∀ cs T f, o' ≠ .cells cs T f) : Rel E n F a (w.putObj l o') g := by
 have hno := zma h.mem hl ho hm
 have hsh := zpx hl ho ho'
 have hle : Cx.Le (cx w g F.hp) (cx (w.putObj l o') g F.hp) := by
  refine ⟨fun m _ Z' hZ' => ⟨Z', hZ', fun b k1 k2 k3 => ⟨k1, k2, ?_⟩⟩, fun b _ => hsh b, id, id, fun _ _ _ => rfl⟩
  refine ⟨by show b < (w.putObj l o').heap.size; rw [World.putObj_size]; exact k3, fun cs T r hc => ?_⟩
  have hne : b ≠ l := by
   rintro rfl
   have hc : w.heap[b]? = some (.cells cs T r) := hc
   rw [hl] at hc
   cases hc
   exact ho _ _ _ rfl
  exact (World.putObj_heap_other hne).trans hc
 refine ⟨h.sz, h.df, fun t => zew hle _ _ (h.rd t), ⟨fun id blk hb => ?_, h.mem.inj, h.mem.nw, ?_, h.mem.fl.obj hl ho⟩, h.base, ?_, h.gz, h.gs, h.nu⟩
 refine zlh (C := cx w g F.hp) hle rfl rfl (fun b o hσ => World.putObj_heap_other ?_) (h.mem.hd id blk hb)
 rintro rfl
 exact hno ⟨id, o, by rw [hb]; simp, hσ⟩
 rw [World.putObj_size]; exact h.mem.zs
 refine h.keep.trans ⟨rfl, rfl, rfl, by rw [World.putObj_size]; exact za4 _, fun k hk hx => World.putObj_heap_other ?_, fun k _ => hsh k⟩
 rintro rfl
 exact hx (.inr hlt)
end
def OkR (P : Program) (lim n : Nat) (r : Option Nat) (c : Code) (st : St) (Q : Exit -> St -> Prop) : Prop :=
 ∀ (E : En) (F : FrS) (a : Act) (w : World) (g : Gh), F.on lim st -> Rel E n F (zg2 a) w g -> zxr E a.defers w ->
  c.wpIn (zkm r) 0 P (fun e a' w' => ∃ st' F' g', Q e st' /\ F'.on lim st' /\ Rel E n F' (zg2 a') w' g' /\ zxr E a'.defers w') a w
section
variable {P : Program} {lim n : Nat} {r : Option Nat} {st : St} {Q : Exit -> St -> Prop}
theorem OkR.mono {c : Code} {Q' : Exit -> St -> Prop} (h : OkR P lim n r c st Q) (hq : ∀ e s, Q e s -> Q' e s) : OkR P lim n r c st Q' :=
 fun E F a w g hF hR hM => wpIn_mono (h E F a w g hF hR hM) fun _ _ _ ⟨st', F', g', h1, h2⟩ => ⟨st', F', g', hq _ _ h1, h2⟩
end
section
variable {E : En} {n : Nat} {F : FrS} {a : Act} {w w' : World} {g g' : Gh} {P : Program}
end
section
variable {P : Program} {lim n : Nat} {st : St} {Q : Exit -> St -> Prop} {call : FuncId -> List D -> List (Nat × Blk) -> Nat -> Option Out}
theorem ya1p {fn : Func} {tmps : Array Value} {R : Ending -> World -> Prop} {E : En} {n : Nat} {F : FrS} {g : Gh} : ∀ (Ds : List Nat) (w : World), Ds.Nodup -> (∀ D ∈ Ds, E.w0.heap.size <= D /\ w.heap[D]? = some (.deferred (some []))) -> Rel E n F { tmps := tmps, defers := [] } w g ->
  (∀ w', Rel E n F { tmps := tmps, defers := [] } w' g -> ∃ v, (results fn tmps).run P w' = .ok v w' /\ R (.returned v) w') -> LeavesInM (zkm none) 0 P fn tmps R (Ds.map mark) .returning w
 | [], w, _, _, hR, hk => hk w hR
 | D :: Ds, w, hnd, hall, hR, hk => by
  obtain ⟨h1, h2⟩ := hall D (by simp)
  refine ⟨by simp, .inl ⟨D, _, rfl, run_takeDeferred h2, ?_⟩⟩
  refine ya1p Ds _ (List.nodup_cons.1 hnd).2 (fun D' hD' => ⟨(hall D' (by simp [hD'])).1, ?_⟩) (hR.setObj h2 h1 (by simp) (by simp) (by simp)) hk
  have hne : D' ≠ D := by
   rintro rfl
   exact (List.nodup_cons.1 hnd).1 hD'
  rw [World.putObj_heap_other hne]
  exact (hall D' (by simp [hD'])).2
theorem zw9 {tab : Nat -> TI} (hT : zgy P tab) {K : FuncId} {fn : Func} {c : Code} {args : List D} {H : List (Nat × Blk)} {r : D} {eff : List (Nat × Option Blk)} {nw : Nat × Nat} (hf : P.funcs[K]? = some fn) (hb : fn.body = some c) (hname : fn.name ≠ "runtime.NumGoroutine") (hlen : args.length <= fn.ntmps)
  (hE : ∀ x ∈ eff, x.1 ∈ H.map (·.1) \/ nw.1 <= x.1 /\ x.1 < nw.2)
  (h : OkR P nw.2 fn.ntmps none c ⟨zfn 0 args, H, nw.1⟩ fun e st => (e = .normal \/ e = .ret) /\ ya5z tab fn H r eff st) : zby P K args H r eff nw := by
 refine zq4 hT hf hb hname hlen hE fun E F g w va R hF hR _ hk => ?_
 refine callsIn_wide.1 (callsIn_of_wp_marks (n := 0) (F := Fence.wide) hf hb trivial (wpIn_mono (h E F _ w g hF hR ⟨[], rfl, List.nodup_nil, nofun⟩) ?_))
 rintro e a' w' ⟨st', F', g', ⟨he, hp⟩, hF', hR', Ds, hds, hnd, hall⟩
 have fin : LeavesInM Fence.wide 0 P fn a'.tmps R a'.defers .returning w' := by
  rw [hds]
  refine ya1p Ds w' hnd hall hR' fun w'' hR'' => ?_
  exact hk st' F' (zg2 a') w'' g' hp hF' hR''
 rcases he with rfl | rfl <;> exact fin
end
section
variable {P : Program} {tab : Nat -> TI} {call : FuncId -> List D -> List (Nat × Blk) -> Nat -> Option Out}
end
def kept (K : List Nat) (a a' : Act) : Prop := ∀ t ∈ K, a'.tmps[t]? = a.tmps[t]?
theorem zja {K : List Nat} {a0 a : Act} {dst : Option Nat} {v : Value} (h : kept K a0 a) (hd : ∀ t ∈ K, dst ≠ some t) : kept K a0 (a.put dst v) := by
 intro t ht
 rw [<- h t ht]
 cases dst with
 | none => rfl
 | some d =>
  have hne : d ≠ t := fun e => hd t ht (by rw [e])
  simp [Act.put, Array.getElem?_setIfInBounds_ne hne]
section
variable {P : Program} {ops : Array Oper} {R : Act -> World -> Prop} {K : List Nat}
theorem ya0j {o : Oper} {a0 a : Act} {next next' : Act -> World -> Prop} (hk : kept K a0 a) (hd : ∀ t ∈ K, o.dst ≠ some t) (hn : ∀ a w, kept K a0 a -> next a w -> next' a w) {res : Result Next}
  (h : o.upon P a next (fun e a w => e = .normal /\ R a w) res) : o.upon P a next' (fun e a w => e = .normal /\ R a w /\ kept K a0 a) res := by
 cases res with
 | ok n w' =>
  cases n with
  | value v => exact hn _ _ (zja hk hd) h
  | skip => exact hn _ _ (zja hk hd) h
  | defer d => exact hn _ _ (zja (a := { a with defers := d :: a.defers }) hk hd) h
  | enter f args =>
   refine Calls.mono (show Calls P f args w' _ from h) fun e w'' hq => ?_
   cases e with
   | returned v => exact hn _ _ (zja hk hd) hq
   | panicked ch => cases hq.1
   | outgrown => obtain ⟨_, _, h1, _⟩ := hq; cases h1
  | row row args => exact Go.Rows.mono (show Go.Rows P row args w' _ from h) fun v w'' hq => hn _ _ (zja hk hd) hq
  | _ => exact h.elim
 | halt x w' =>
  cases x with
  | panic v => cases (show Exit.panic _ = Exit.normal /\ _ from h).1
  | _ => exact h.elim
theorem zkl {a0 : Act} : ∀ (l : List Nat) (a : Act) (w : World), (∀ i ∈ l, ∀ o, ops[i]? = some o -> ∀ t ∈ K, o.dst ≠ some t) -> kept K a0 a -> wpOps P ops (fun e a w => e = .normal /\ R a w) l a w ->
  wpOps P ops (fun e a' w' => e = .normal /\ R a' w' /\ kept K a0 a') l a w
 | [], a, w, _, hk, h => ⟨rfl, h.2, hk⟩
 | i :: l, a, w, hl, hk, h => by
  simp only [wpOps] at h ⊢
  cases ho : ops[i]? with
  | none =>
   simp only [ho] at h ⊢
   exact zkl l a w (fun j hj => hl j (by simp [hj])) hk h
  | some o =>
   simp only [ho] at h ⊢
   have hd := hl i (by simp) o ho
   have hn : ∀ a w, kept K a0 a -> wpOps P ops (fun e a w => e = .normal /\ R a w) l a w -> wpOps P ops (fun e a' w' => e = .normal /\ R a' w' /\ kept K a0 a') l a w := fun a w hk h => zkl l a w (fun j hj => hl j (by simp [hj])) hk h
   split at h
   rename_i hw
   rw [if_pos hw]
   rcases h with h | ⟨_, _, _, h, _⟩
   exact .inl (ya0j hk hd hn h)
   cases h
   rename_i hw
   rw [if_neg hw]
   exact hn _ _ (zja hk hd) h
end
theorem zwg {F : Fence} {n : Nat} {P : Program} {o : Oper} {a : Act} {X : Act -> World -> Prop} {next' : Act -> World -> Prop} {Q : Exit -> Act -> World -> Prop} (hn : ∀ a w, X a w -> next' a w) {next : Act -> World -> Prop} (hx : ∀ a w, next a w -> X a w) {res : Result Next}
  (h : o.uponIn F n P a next (fun e a w => e = .normal /\ X a w) res) : o.uponIn F n P a next' Q res := by
 have hn : ∀ a w, next a w -> next' a w := fun a w h => hn a w (hx a w h)
 cases res with
 | ok x w' =>
  cases x with
  | value v => exact hn _ _ h
  | skip => exact hn _ _ h
  | defer d => exact hn _ _ h
  | enter f args =>
   rw [Oper.uponIn_enter] at h ⊢
   refine ⟨h.1, h.2.1, fun cs hr => ?_⟩
   obtain ⟨e, w2, fr, hq, hrest⟩ := h.2.2 cs hr
   refine ⟨e, w2, fr, ?_, hrest⟩
   cases e with
   | returned v => exact hn _ _ hq
   | panicked ch => cases hq.1
   | outgrown => obtain ⟨_, _, h1, _⟩ := hq; cases h1
  | row row args =>
   rw [Oper.uponIn_row] at h ⊢
   exact ⟨h.1, h.2.mono fun v w'' hq => hn _ _ hq⟩
  | round l f tmps assign body =>
   rw [Oper.uponIn_round] at h ⊢
   refine ⟨h.1, h.2.mono fun e w'' hq => ?_⟩
   cases e with
   | returned v => exact hn _ _ hq
   | panicked ch => cases hq.1
   | outgrown => obtain ⟨_, _, h1, _⟩ := hq; cases h1
  | _ => exact h.elim
 | halt x w' =>
  cases x with
  | panic v => cases (show Exit.panic _ = Exit.normal /\ _ from h).1
  | _ => exact h.elim
theorem zt0 {F : Fence} {n : Nat} {P : Program} {ops : Array Oper} {X : Act -> World -> Prop} {Q : Exit -> Act -> World -> Prop} {i : Nat} {rest : List Nat} {a : Act} {w : World}
  (h : wpOpsIn F n P ops (fun e a w => e = .normal /\ X a w) [i] a w) (hn : ∀ a w, X a w -> wpOpsIn F n P ops Q rest a w) : wpOpsIn F n P ops Q (i :: rest) a w := by
 simp only [wpOpsIn] at h ⊢
 cases ho : ops[i]? with
 | none => simp only [ho] at h ⊢; exact hn _ _ h.2
 | some o =>
  simp only [ho] at h ⊢
  split at h
  rename_i hw
  rw [if_pos hw]
  exact ⟨h.1, zwg hn (fun _ _ h => h.2) h.2⟩
  rename_i hw
  rw [if_neg hw]
  exact ⟨h.1, hn _ _ h.2.2⟩
def ztt (F : Fence) (n : Nat) (P : Program) (c : Code) (Q : Exit -> Act -> World -> Prop) (a : Act) (w : World) : Prop :=
 ∀ (b : Frame) (k : List Item) (cs : List Frame), b.roundOf = F.round -> F.fn b.fn -> F.room (cs.length + 1 + n) ->
  ∃ e a' w', Q e a' w' /\ ArrivesIn (Machine.fenced P F) P (lone (b.atR a (.code c :: .inLoop c :: k)) cs w) b k cs e a' w'
section
variable {F : Fence} {n : Nat} {P : Program} {c : Code} {Q : Exit -> Act -> World -> Prop} {a : Act} {w : World}
theorem ztt.to (h : ztt F n P c Q a w) : (Code.loop c).wpIn F n P Q a w := by
 intro b k cs hro hb hr
 obtain ⟨e, a', w', hq, harr⟩ := h b k cs hro hb hr
 exact ⟨e, a', w', hq, .of_steps (.one (fenced_calm hb hr rfl) stepR_loop) harr⟩
theorem ztt.round (h : c.wpIn F n P (Exit.then (ztt F n P c Q) Q) a w) : ztt F n P c Q a w := by
 intro b k cs hro hb hr
 obtain ⟨e, a₁, w₁, hq, harr⟩ := h b (.inLoop c :: k) cs hro hb hr
 cases e with
 | normal =>
  obtain ⟨e₂, a₂, w₂, hq₂, harr₂⟩ := hq b k cs hro hb hr
  exact ⟨e₂, a₂, w₂, hq₂, .of_steps (StepsIn.trans harr (.one (fenced_calm hb hr rfl) stepR_inLoop)) harr₂⟩
 | exit id => exact ⟨_, a₁, w₁, hq, .pass (x := .inLoop c) rfl (fun _ _ => .inl (by simp)) harr⟩
 | goto l => exact ⟨_, a₁, w₁, hq, .pass (x := .inLoop c) rfl (fun _ _ => .inl (by simp)) harr⟩
 | ret => exact ⟨_, a₁, w₁, hq, .pass (x := .inLoop c) rfl (fun _ _ => .inl (by simp)) harr⟩
 | panic ch => exact ⟨_, a₁, w₁, hq, .pass (x := .inLoop c) rfl (fun _ _ => .inl (by simp)) harr⟩
 | outgrown => exact ⟨_, a₁, w₁, hq, .pass (x := .inLoop c) rfl (fun _ _ => .inl (by simp)) harr⟩
end
def En.forkX (E : En) (w : World) (g : Gh) (F : FrS) (X : Nat -> Prop) : En := ⟨w, E.fr, fun b => ownB g F.hp b \/ X b, g, F.nu⟩
section
variable {E : En} {n m : Nat} {F F2 : FrS} {a a2 : Act} {w w2 : World} {g g2 : Gh} {X : Nat -> Prop}
theorem zun (hR : Rel E n F a w g) (k : Rel (E.forkX w g F X) m F2 a2 w2 g2) (hX : ∀ b, X b -> ∃ o, w.heap[b]? = some o /\ ∀ cs T f, o ≠ .cells cs T f) (hX2 : ∀ b, X b -> ¬ ownB g2 F2.hp b) :
  Cx.Le (cx w g F.hp) (cx w2 g2 F2.hp) := by
 refine ⟨fun mk _ Z' hZ' => ⟨Z', ?_, fun b hM hZ hb => ⟨?_, hZ, ?_⟩⟩, fun b hb => k.keep.shp b hb, id, id, fun _ id hid => ?_⟩
 have h1 := k.gz.1
 have h2 := k.gz.2
 simp only [En.forkX] at h1 h2
 simp only [Cx.zone, cx, h1, h2] at hZ' ⊢
 exact hZ'
 rintro ⟨id, o, h1, h2⟩
 rcases k.base id b o h1 h2 with h | h | h
 have hb : b < w.heap.size := hb
 have h : w.heap.size <= b := h
 omega
 exact hM h
 exact hX2 b h ⟨id, o, h1, h2⟩
 by_cases hx : X b
 obtain ⟨o, ho, hc⟩ := hX b hx
 refine ⟨Nat.lt_of_lt_of_le hb k.keep.size, fun cs T r hcs => ?_⟩
 have hcs : w.heap[b]? = some (.cells cs T r) := hcs
 rw [ho] at hcs
 cases hcs
 exact absurd rfl (hc _ _ _)
 exact .of_eq (k.keep.block b hb fun h => h.elim hM hx) hb
 refine k.gs id ?_
 cases hb : F.nu id
 exact hb
 exact absurd (hR.mem.nw id hb).1 hid
theorem Rel.swap (hR : Rel E n F a w g) (k : Rel (E.forkX w g F X) m F2 a2 w2 g2) (hX : ∀ b, X b -> ∃ o, w.heap[b]? = some o /\ ∀ cs T f, o ≠ .cells cs T f) (hX2 : ∀ b, X b -> ¬ ownB g2 F2.hp b) (hnew : ∀ b, X b -> E.w0.heap.size <= b \/ E.X b) :
  Rel E n ⟨F.rd, F2.hp, F2.nu⟩ a w2 g2 := by
 have hle := zun hR k hX hX2
 refine ⟨hR.sz, hR.df, fun t => zew hle _ _ (hR.rd t), k.mem, fun id b o h1 h2 => ?_, ?_, ⟨k.gz.1.trans hR.gz.1, k.gz.2.trans hR.gz.2⟩, fun id hid => ?_, fun id hid => hR.nu id (k.nu id hid)⟩
 rcases k.base id b o h1 h2 with hb | ⟨id', o', h3, h4⟩ | hx
 exact .inl (zar hR.keep.size hb)
 exact hR.base id' b o' h3 h4
 exact hnew b hx
 refine hR.keep.trans (k.keep.mono ?_)
 rintro b _ (⟨id, o, h1, h2⟩ | hx)
 rcases hR.base id b o h1 h2 with hb | hb
 exact .inr hb
 exact .inl hb
 rcases hnew b hx with hb | hb
 exact .inr hb
 exact .inl hb
 have hf : F.nu id = false := by
  cases hb : F.nu id
  rfl
  rw [hR.nu id hb] at hid; cases hid
 exact (k.gs id hf).trans (hR.gs id hid)
theorem Rel.setObjX (h : Rel E n F a w g) {l : Nat} {o o' : Obj} (hl : w.heap[l]? = some o) (hlt : E.w0.heap.size <= l \/ E.X l) (ho : ∀ cs T f, o ≠ .cells cs T f) (hm : ∀ es c, o ≠ .map es c) (ho' : ∀ cs T f, o' ≠ .cells cs T f) : Rel E n F a (w.putObj l o') g := by
 have hno := zma h.mem hl ho hm
 have hsh := zpx hl ho ho'
 have hle : Cx.Le (cx w g F.hp) (cx (w.putObj l o') g F.hp) := by
  refine ⟨fun m _ Z' hZ' => ⟨Z', hZ', fun b k1 k2 k3 => ⟨k1, k2, ?_⟩⟩, fun b _ => hsh b, id, id, fun _ _ _ => rfl⟩
  refine ⟨by show b < (w.putObj l o').heap.size; rw [World.putObj_size]; exact k3, fun cs T r hc => ?_⟩
  have hne : b ≠ l := by
   rintro rfl
   have hc : w.heap[b]? = some (.cells cs T r) := hc
   rw [hl] at hc
   cases hc
   exact ho _ _ _ rfl
  exact (World.putObj_heap_other hne).trans hc
 refine ⟨h.sz, h.df, fun t => zew hle _ _ (h.rd t), ⟨fun id blk hb => ?_, h.mem.inj, h.mem.nw, ?_, h.mem.fl.obj hl ho⟩, h.base, ?_, h.gz, h.gs, h.nu⟩
 refine zlh (C := cx w g F.hp) hle rfl rfl (fun b o hσ => World.putObj_heap_other ?_) (h.mem.hd id blk hb)
 rintro rfl
 exact hno ⟨id, o, by rw [hb]; simp, hσ⟩
 rw [World.putObj_size]; exact h.mem.zs
 refine h.keep.trans ⟨rfl, rfl, rfl, by rw [World.putObj_size]; exact za4 _, fun k hk hx => World.putObj_heap_other ?_, fun k _ => hsh k⟩
 rintro rfl
 exact hx (hlt.elim .inr .inl)
end
section
variable {S : Type}
def Stab (K : List Nat) (J : En -> S -> FrS -> Act -> World -> Gh -> Prop) : Prop :=
 ∀ (E : En) (n : Nat) (F F' : FrS) (a a' : Act) (w w' : World) (g g' : Gh) (s : S), J E s F a w g -> Rel E n F (zg2 a) w g -> Rel (E.fork w g F) n F' (zg2 a') w' g' -> a'.defers = a.defers -> kept K a a' -> J E s F' a' w' g'
def OkG (P : Program) (lim n : Nat) (r : Option Nat) (J : En -> S -> FrS -> Act -> World -> Gh -> Prop) (c : Code) (st : St) (s : S) (Q : Exit -> St -> S -> Prop) : Prop :=
 ∀ (E : En) (F : FrS) (a : Act) (w : World) (g : Gh), F.on lim st -> Rel E n F (zg2 a) w g -> J E s F a w g ->
  c.wpIn (zkm r) 0 P (fun e a' w' => ∃ st' s' F' g', Q e st' s' /\ F'.on lim st' /\ Rel E n F' (zg2 a') w' g' /\ J E s' F' a' w' g') a w
def OkGL (P : Program) (lim n : Nat) (r : Option Nat) (J : En -> S -> FrS -> Act -> World -> Gh -> Prop) (c : Code) (st : St) (s : S) (Q : Exit -> St -> S -> Prop) : Prop :=
 ∀ (E : En) (F : FrS) (a : Act) (w : World) (g : Gh), F.on lim st -> Rel E n F (zg2 a) w g -> J E s F a w g ->
  ztt (zkm r) 0 P c (fun e a' w' => ∃ st' s' F' g', Q e st' s' /\ F'.on lim st' /\ Rel E n F' (zg2 a') w' g' /\ J E s' F' a' w' g') a w
variable {P : Program} {lim n : Nat} {r : Option Nat} {J : En -> S -> FrS -> Act -> World -> Gh -> Prop} {st : St} {s : S} {Q : Exit -> St -> S -> Prop}
theorem OkG.mono {c : Code} {Q' : Exit -> St -> S -> Prop} (h : OkG P lim n r J c st s Q) (hq : ∀ e t s, Q e t s -> Q' e t s) : OkG P lim n r J c st s Q' :=
 fun E F a w g hF hR hJ => wpIn_mono (h E F a w g hF hR hJ) fun _ _ _ ⟨st', s', F', g', h1, h2⟩ => ⟨st', s', F', g', hq _ _ _ h1, h2⟩
theorem OkG.skip (h : Q .normal st s) : OkG P lim n r J .skip st s Q := fun _ F _ _ g hF hR hJ => wpIn_skip ⟨st, s, F, g, h, hF, hR, hJ⟩
theorem OkG.exit {id : Nat} (h : Q (.exit id) st s) : OkG P lim n r J (.exit id) st s Q := fun _ F _ _ g hF hR hJ => wpIn_exit ⟨st, s, F, g, h, hF, hR, hJ⟩
theorem OkG.ret (h : Q .ret st s) : OkG P lim n r J .ret st s Q := fun _ F _ _ g hF hR hJ => wpIn_ret ⟨st, s, F, g, h, hF, hR, hJ⟩
def seqG (P : Program) (lim n : Nat) (r : Option Nat) (J : En -> S -> FrS -> Act -> World -> Gh -> Prop) (y : Code) (Q : Exit -> St -> S -> Prop) : Exit -> St -> S -> Prop := fun e st' s' => match e with | .normal => OkG P lim n r J y st' s' Q | e => Q e st' s'
theorem OkG.seq {x y : Code} (h : OkG P lim n r J x st s (seqG P lim n r J y Q)) : OkG P lim n r J (.seq x y) st s Q := by
 intro E F a w g hF hR hJ
 refine wpIn_seq (wpIn_mono (h E F a w g hF hR hJ) ?_)
 rintro e a' w' ⟨st', s', F', g', h1, h2, h3, h4⟩
 cases e with
 | normal => exact h1 E F' a' w' g' h2 h3 h4
 | _ => exact ⟨st', s', F', g', h1, h2, h3, h4⟩
theorem OkG.block {id : Nat} {c : Code} (h : OkG P lim n r J c st s fun e st' s' => match e with | .exit i => bif Nat.beq i id then Q .normal st' s' else Q (.exit i) st' s' | e => Q e st' s') : OkG P lim n r J (.block id c) st s Q := by
 intro E F a w g hF hR hJ
 refine wpIn_block (wpIn_mono (h E F a w g hF hR hJ) ?_)
 rintro e a' w' ⟨st', s', F', g', h1, h2, h3⟩
 cases e with
 | exit i =>
  simp only [Exit.inBlock]
  by_cases hi : i = id
  subst hi; simp only [Nat.beq_refl, cond_true, if_true] at h1 ⊢; exact ⟨st', s', F', g', h1, h2, h3⟩
  simp only [zdi hi] at h1
  simp only [hi, if_false, cond_false] at h1 ⊢; exact ⟨st', s', F', g', h1, h2, h3⟩
 | _ => exact ⟨st', s', F', g', h1, h2, h3⟩
theorem OkG.cond {c : Operand} {x y : Code} {b : Bool} (hk : zcz c = true) (hc : ev (getR st.vars) c = .bool b) (h1 : b = true -> OkG P lim n r J x st s Q) (h2 : b = false -> OkG P lim n r J y st s Q) : OkG P lim n r J (.cond c x y) st s Q := by
 intro E F a w g hF hR hJ
 have := zy4 hR.rd c hk
 rw [hF.1, hc, ztq] at this
 simp only [rep] at this
 cases b
 exact wpIn_cond_false this (h2 rfl E F a w g hF hR hJ)
 exact wpIn_cond_true this (h1 rfl E F a w g hF hR hJ)
theorem OkGL.to {c : Code} (h : OkGL P lim n r J c st s Q) : OkG P lim n r J (.loop c) st s Q := fun E F a w g hF hR hJ => (h E F a w g hF hR hJ).to
theorem OkGL.round {c : Code} (h : OkG P lim n r J c st s fun e st' s' => match e with | .normal => OkGL P lim n r J c st' s' Q | e => Q e st' s') : OkGL P lim n r J c st s Q := by
 intro E F a w g hF hR hJ
 refine .round (wpIn_mono (h E F a w g hF hR hJ) ?_)
 rintro e a' w' ⟨st', s', F', g', h1, h2, h3, h4⟩
 cases e with
 | normal => exact h1 E F' a' w' g' h2 h3 h4
 | _ => exact ⟨st', s', F', g', h1, h2, h3, h4⟩
def znf (K : List Nat) (ops : Array Oper) : Bool := ops.toList.all fun o => match o.dst with
 | some t => !hasN K t
 | none => true
theorem zrr {K : List Nat} {ops : Array Oper} (h : znf K ops = true) {i : Nat} {o : Oper} (ho : ops[i]? = some o) : ∀ t ∈ K, o.dst ≠ some t := by
 intro t ht e
 have hm : o ∈ ops.toList := List.mem_of_getElem? (i := i) (by simpa using ho)
 have := List.all_eq_true.1 h o hm
 rw [e] at this
 simp only [Bool.not_eq_true'] at this
 rw [zqo.2 ht] at this
 cases this
theorem OkG.region0 {K : List Nat} (hS : Stab K J) {tab : Nat -> TI} (hT : zgy P tab) (hm : P.follows .mixedOrders = true) {own : Bool} {id : Nat} {ops : Array Oper} {draw : Bool} (hok : zj0 n ops draw = true) (hKo : znf K ops = true) (h : RegA P tab own lim ops draw st (fun st' => Q .normal st' s)) : OkG P lim n r J (.region id ops draw) st s Q := by
 simp only [zj0, za0, zas, Bool.not_eq_true'] at hok
 intro E F a w g hF hR hJ
 obtain ⟨os, st', hch, hs, hq⟩ := h
 have hRk := hR.fork
 have ha : zqv (zg2 a) a.defers = a := rfl
 have fin : ∀ e a' w', (e = Exit.normal /\ a'.defers = a.defers /\ (∃ F' g', F'.on lim st' /\ Rel (E.fork w g F) n F' (zg2 a') w' g') /\ kept K (zg2 a) (zg2 a')) -> ∃ st' s' F' g', Q e st' s' /\ F'.on lim st' /\ Rel E n F' (zg2 a') w' g' /\ J E s' F' a' w' g' := by
  rintro e a' w' ⟨rfl, hd, ⟨F', g', hF', hR'⟩, hk⟩
  exact ⟨st', s, F', g', hq, hF', hR.join hR', hS E n F F' a a' w w' g g' s hJ hR hR' hd hk⟩
 have hdf : ∀ (a' : Act) (w' : World), ((∃ F' g', F'.on lim st' /\ Rel (E.fork w g F) n F' a' w' g') /\ kept K (zg2 a) a') -> a'.defers = [] := fun a' w' ⟨⟨_, _, _, h⟩, _⟩ => h.df
 have hbk : ∀ a', kept K (zg2 a) (zg2 a') -> kept K (zg2 a) (zg2 a') := fun _ h => h
 have hko : ∀ (l : List Nat), ∀ i ∈ l, ∀ o, ops[i]? = some o -> ∀ t ∈ K, o.dst ≠ some t := fun _ i _ o ho => zrr hKo ho
 cases draw with
 | false =>
  refine wpIn_mono (wpIn_region ?_) fin
  have := znp hT hok.1 (Q := fun e a' w' => e = .normal /\ ∃ F' g', F'.on lim st' /\ Rel (E.fork w g F) n F' a' w' g') ops.toList 0 st st' os F (zg2 a) w g (fun i => by simp) hch hF hRk (fun F' a' w' g' hf hr => ⟨rfl, F', g', hf, hr⟩)
  have h2 := zmt hdf r 0 a.defers _ _ _ (zkl (K := K) (a0 := zg2 a) _ _ _ (hko _) (fun _ _ => rfl) this)
  rw [ha] at h2
  rw [List.range_eq_range']
  simpa using h2
 | true =>
  have hsl := hok.2.resolve_left (by simp)
  obtain ⟨hlen, F', hF', hrun⟩ := zpj ops.toList 0 st st' os F (fun i => by simp) hch hF
  have hs' := hs rfl
  simp only [zai] at hs'
  refine wpIn_mono (wpIn_region_draw fun t => ?_) fin
  simp only [Region.schedule, hm, Bool.true_or, if_true]
  have hany := zr1 (Q := fun e a' w' => e = .normal /\ ∃ F' g', F'.on lim st' /\ Rel (E.fork w g F) n F' a' w' g') hT hok.1 hsl (outs := fun i => ((os.map (·.1))[i - 0]?).getD { d := .undef, vc := true }) (fps := fun i => ((os.map (·.2))[i - 0]?).getD zkc) (by simpa using hs') (F' := F')
   (fun a' w' g' h => ⟨rfl, F', g', hF', h⟩) ops.size (Array.replicate ops.size false) (List.range ops.size) F (zg2 a) { w with drawn := w.drawn + 1 } g (by simp) List.pairwise_lt_range ?_ (by simp) ?_ (by rw [List.range_eq_range']; exact hrun) (Rel.ext hRk (Keep.refl _ w).drew)
  have h2 := zmt hdf r 0 a.defers _ _ _ (zkl (K := K) (a0 := zg2 a) _ _ _ (hko _) (fun _ _ => rfl) (wpAny_sound ops.size t _ _ _ hany))
  rw [ha] at h2
  exact h2
  intro i
  simp only [List.mem_range]
  constructor
  intro h; exact ⟨h, by simp [Array.getD, h]⟩
  exact fun h => h.1
  intro i o hi hl
  exfalso
  have : i < ops.size := (Array.getElem?_eq_some_iff.1 hi).1
  simp [Array.getD, this] at hl
end
def JM (B : List (Nat × Obj)) (E : En) (_ : Unit) (_ : FrS) (a : Act) (w : World) (_ : Gh) : Prop := zxr E a.defers w /\ ∀ x ∈ B, w.heap[x.1]? = some x.2
def znx (B : List (Nat × Obj)) : Prop := ∀ x ∈ B, (∀ cs T f, x.2 ≠ .cells cs T f) /\ ∀ es c, x.2 ≠ .map es c
theorem ya8h {B : List (Nat × Obj)} (hB : znx B) : Stab [] (JM B) := by
 intro E n F F' a a' w w' g g' s hJ hR hR' hd _
 refine ⟨by rw [hd]; exact hJ.1.keep hR hR'.keep fun _ h => h, fun x hx => ?_⟩
 have h := hJ.2 x hx
 rw [hR'.keep.block x.1 (Array.getElem?_eq_some_iff.1 h).1 (zma hR.mem h (hB x hx).1 (hB x hx).2)]
 exact h
structure YC where
 k : Nat
 n : Nat
 vars : List (Nat × D)
 ps : Array Tmp
 assign : Code
 body : Code
structure YRec (Y : YC) (p : Option Code) (F : FrS) (w : World) (g : Gh) (rc : Loop) : Prop where
 st : rc.state = match p with | none => .ready | some _ => .done
 pe : rc.pending = p
 ps : rc.params = Y.ps
 asg : rc.assign = Y.assign
 bd : rc.body = Y.body
 sz : Y.n <= rc.tmps.size
 rd : ∀ t, rep (cx w g F.hp) (getR Y.vars t) (rc.tmps.getD t undef)
def YAt (Y : YC) (l : Nat) (E : En) (p : Option Code) (F : FrS) (a : Act) (w : World) (g : Gh) : Prop :=
 a.defers = [] /\ a.tmps[Y.k]? = some (.func (.yield l) #[] #[]) /\ (E.w0.heap.size <= l \/ E.X l) /\ ∃ rc, w.heap[l]? = some (.loop rc) /\ YRec Y p F w g rc
theorem YRec.le {Y : YC} {p : Option Code} {F F' : FrS} {w w' : World} {g g' : Gh} {rc : Loop} (h : YRec Y p F w g rc) (hle : Cx.Le (cx w g F.hp) (cx w' g' F'.hp)) : YRec Y p F' w' g' rc :=
 ⟨h.st, h.pe, h.ps, h.asg, h.bd, h.sz, fun t => zew hle _ _ (h.rd t)⟩
theorem zzx {E : En} {n : Nat} {F F' : FrS} {a' : Act} {w w' : World} {g g' : Gh} {X : Nat -> Prop} (h : Rel (E.fork w g F) n F' a' w' g') : Rel (E.forkX w g F X) n F' a' w' g' :=
 ⟨h.sz, h.df, h.rd, h.mem, fun id b o h1 h2 => (h.base id b o h1 h2).imp_right .inl, h.keep.mono fun _ _ h => .inl h, h.gz, h.gs, h.nu⟩
theorem ya4s {Y : YC} {l : Nat} : Stab [Y.k] (YAt Y l) := by
 intro E n F F' a a' w w' g g' p ⟨h1, h2, h3, rc, h4, h5⟩ hR hR' hd hk
 refine ⟨hd.trans h1, (hk Y.k (by simp)).trans h2, h3, rc, ?_, h5.le (zun hR (zzx (X := fun _ => False) hR') (fun _ h => h.elim) (fun _ h => h.elim))⟩
 rw [hR'.keep.block l (Array.getElem?_eq_some_iff.1 h4).1 (zma hR.mem h4 (by simp) (by simp))]
 exact h4
def ztf : List Nat -> List D -> List (Nat × D) -> List (Nat × D)
 | t :: ts, d :: ds, vs => ztf ts ds (put vs t d)
 | _, _, vs => vs
theorem zte {C : Cx} {N : Nat} : ∀ (ts : List Nat) (ds : List D) (vs : List Value) (vars : List (Nat × D)) (tm : Array Value), reps C ds vs -> (∀ t ∈ ts, t < N) -> N <= tm.size -> (∀ t, rep C (getR vars t) (tm.getD t undef)) ->
  N <= ((ts.zip vs).foldl (fun tmps (x : Tmp × Value) => tmps.setIfInBounds x.1 x.2) tm).size /\ ∀ t, rep C (getR (ztf ts ds vars) t) (((ts.zip vs).foldl (fun tmps (x : Tmp × Value) => tmps.setIfInBounds x.1 x.2) tm).getD t undef)
 | [], ds, vs, vars, tm, _, _, hs, h => by
  cases ds <;> exact ⟨hs, h⟩
 | t :: ts, [], vs, vars, tm, hr, _, hs, h => by
  simp only [reps] at hr
  subst hr
  exact ⟨hs, h⟩
 | t :: ts, d :: ds, vs, vars, tm, hr, hlt, hs, h => by
  simp only [reps] at hr
  obtain ⟨v, vs', rfl, hd, hr⟩ := hr
  simp only [ztf, List.zip_cons_cons, List.foldl_cons]
  refine zte ts ds vs' _ _ hr (fun u hu => hlt u (by simp [hu])) (by simpa using hs) fun u => ?_
  have hl := hlt t (by simp)
  simp only [getR, zgb]
  by_cases e : t = u
  subst e
  simp only [if_true]
  have : (tm.setIfInBounds t v).getD t undef = v := by
   simp [Array.getD, Nat.lt_of_lt_of_le hl hs]
  rw [this]; exact hd
  simp only [e, if_false]
  have : (tm.setIfInBounds t v).getD u undef = tm.getD u undef := by
   simp only [Array.getD_eq_getD_getElem?, Array.getElem?_setIfInBounds_ne e]
  rw [this]; exact h u
def Ex.isN : Ex -> Bool
 | .normal => true
 | _ => false
def Ex.pend : Ex -> Option Code
 | .normal => none
 | .exit i => some (.exit i)
 | .ret => some .ret
section
variable {P : Program} {Y : YC} {l : Nat} {E : En} {n lim : Nat} {F : FrS} {a : Act} {w : World} {g : Gh}
def zn6 (l : Nat) : Nat -> Prop := fun b => b = l
def zv2 (P : Program) (lim : Nat) (Y : YC) (ds : List D) (heap : List (Nat × Blk)) (nx : Nat) (e : Ex) (heap' : List (Nat × Blk)) (nx' : Nat) : Prop :=
 ds.length = Y.ps.size /\ (∀ t ∈ Y.ps.toList, t < Y.n) /\ ∃ st1 st2, st2.heap = heap' /\ st2.nx = nx' /\
  (∀ (l : Nat) (B : List (Nat × Obj)), znx B -> OkG P lim Y.n (some l) (JM B) Y.assign ⟨ztf Y.ps.toList ds Y.vars, heap, nx⟩ () fun e s _ => e = .normal /\ s = st1) /\
  ∀ (l : Nat) (B : List (Nat × Obj)), znx B -> OkG P lim Y.n (some l) (JM B) Y.body st1 () fun e' s _ => e' = e.to /\ s = st2
theorem ya30 {st : St} (hF : F.on lim st) (hR : Rel E n F a w g) (hJ : YAt Y l E none F a w g) {ds : List D} {vs : List Value} (hvs : reps (cx w g F.hp) ds vs) {e : Ex} {heap' : List (Nat × Blk)} {nx' : Nat} (hO : zv2 P lim Y ds st.heap st.nx e heap' nx') :
  ∃ f tmps assign body, (Instr.yield l vs.toArray).run P w = .ok (.round l f tmps assign body) w /\ RoundIn (zkm none) 0 P l f tmps assign body w fun x w' => x = .returned (.bool e.isN) /\ ∃ F' g', F'.on lim ⟨st.vars, heap', nx'⟩ /\ Rel E n F' a w' g' /\ YAt Y l E e.pend F' a w' g' := by
 obtain ⟨hlen, hlt, st1, st2, rfl, rfl, hA, hB⟩ := hO
 obtain ⟨_, hyk, hnew, rc, hl, hrc⟩ := hJ
 have hsz : vs.toArray.size = rc.params.size := by
  rw [hrc.ps, <- hlen, List.size_toArray, zdc _ _ hvs]
 refine ⟨rc.fn, _, rc.assign, rc.body, run_yield hl hsz, ?_⟩
 obtain ⟨tm, htm⟩ : ∃ tm, tm = (rc.params.zip vs.toArray).foldl (fun tmps (x : Tmp × Value) => tmps.setIfInBounds x.1 x.2) rc.tmps := ⟨_, rfl⟩
 have htm2 : tm = (Y.ps.toList.zip vs).foldl (fun tmps (x : Tmp × Value) => tmps.setIfInBounds x.1 x.2) rc.tmps := by
  rw [htm, <- Array.foldl_toList, hrc.ps]; simp
 obtain ⟨k1, k2⟩ := zte Y.ps.toList ds vs Y.vars rc.tmps hvs hlt hrc.sz hrc.rd
 rw [<- htm2] at k1 k2
 have hX : ∀ b, zn6 l b -> ∃ o, w.heap[b]? = some o /\ ∀ cs T f, o ≠ .cells cs T f := by
  intro b hb; rw [show b = l from hb]; exact ⟨_, hl, by simp⟩
 have hnewX : ∀ b, zn6 l b -> E.w0.heap.size <= b \/ E.X b := by intro b hb; rw [show b = l from hb]; exact hnew
 have hRb : Rel (E.forkX w g F (zn6 l)) Y.n ⟨getR (ztf Y.ps.toList ds Y.vars), F.hp, F.nu⟩ { tmps := tm, defers := [] } w g :=
  ⟨k1, rfl, k2, hR.mem, fun id b o h1 h2 => .inr (.inl ⟨id, o, h1, h2⟩), Keep.refl _ _, ⟨rfl, rfl⟩, fun _ _ => rfl, fun _ h => h⟩
 have hNC : ∀ rc : Loop, znx [(l, .loop rc)] := by
  intro rc x hx
  simp only [List.mem_singleton] at hx
  subst hx
  exact ⟨by simp, by simp⟩
 show RoundIn (zkm none) 0 P l rc.fn ((rc.params.zip vs.toArray).foldl (fun tmps (x : Tmp × Value) => tmps.setIfInBounds x.1 x.2) rc.tmps) rc.assign rc.body w _
 rw [<- htm, hrc.asg, hrc.bd]
 refine roundIn_of_wpIn trivial ?_
 show Y.assign.wpIn (zkm (some l)) 0 P _ _ w
 refine wpIn_mono (hA l [(l, .loop rc)] (hNC rc) (E.forkX w g F (zn6 l)) ⟨getR (ztf Y.ps.toList ds Y.vars), F.hp, F.nu⟩ { tmps := tm, defers := [] } w g ⟨rfl, hF.2.1, hF.2.2⟩ hRb ⟨⟨[], rfl, List.nodup_nil, nofun⟩, fun x hx => by
  simp only [List.mem_singleton] at hx
  subst hx
  exact hl⟩) ?_
 rintro e1 a1 w1 ⟨s1, _, F1, g1, ⟨rfl, rfl⟩, hF1, hR1, hM1, hB1⟩
 have hl1 : w1.heap[l]? = some (.loop rc) := hB1 (l, .loop rc) (by simp)
 refine ⟨_, run_beginRound hl1 hrc.st, ?_⟩
 obtain ⟨rcb, hrcb⟩ : ∃ rcb : Loop, rcb = { rc with state := .busy } := ⟨_, rfl⟩
 rw [<- hrcb]
 have hR2 : Rel (E.forkX w g F (zn6 l)) Y.n F1 (zg2 a1) (w1.putObj l (.loop rcb)) g1 := hR1.setObjX hl1 (.inr (.inr rfl)) (by simp) (by simp) (by simp)
 have hl2 : (w1.putObj l (.loop rcb)).heap[l]? = some (.loop rcb) := World.putObj_heap_same (Array.getElem?_eq_some_iff.1 hl1).1
 have hM2 : zxr (E.forkX w g F (zn6 l)) a1.defers (w1.putObj l (.loop rcb)) := by
  obtain ⟨Ds, hDs, hnd, hall⟩ := hM1
  refine ⟨Ds, hDs, hnd, fun D hD => ⟨(hall D hD).1, ?_⟩⟩
  have hne : D ≠ l := by
   rintro rfl
   have := (hall D hD).2
   rw [hl1] at this
   cases this
  rw [World.putObj_heap_other hne]
  exact (hall D hD).2
 show Y.body.wpIn (zkm (some l)) 0 P _ _ _
 refine wpIn_mono (hB l [(l, .loop rcb)] (hNC rcb) (E.forkX w g F (zn6 l)) F1 a1 (w1.putObj l (.loop rcb)) g1 hF1 hR2 ⟨hM2, fun x hx => by
  simp only [List.mem_singleton] at hx
  subst hx
  exact hl2⟩) ?_
 rintro e2 a2 w2 ⟨s2, _, F2, g2, ⟨rfl, rfl⟩, hF2, hR3, hM3, hB3⟩
 have hl3 : w2.heap[l]? = some (.loop rcb) := hB3 (l, .loop rcb) (by simp)
 have fin : ∀ jump : Option Code, (Instr.endRound l jump).run P w2 = .ok (.bool jump.isNone) (w2.putObj l (.loop { rcb with state := if jump.isNone then .ready else .done, pending := jump })) /\
   ∃ F' g', F'.on lim ⟨st.vars, s2.heap, s2.nx⟩ /\ Rel E n F' a (w2.putObj l (.loop { rcb with state := if jump.isNone then .ready else .done, pending := jump })) g' /\ YAt Y l E jump F' a (w2.putObj l (.loop { rcb with state := if jump.isNone then .ready else .done, pending := jump })) g' := by
  intro jump
  refine ⟨run_endRound jump hl3, ⟨F.rd, F2.hp, F2.nu⟩, g2, ⟨hF.1, hF2.2.1, hF2.2.2⟩, ?_⟩
  obtain ⟨W3, hW3⟩ : ∃ W3, W3 = w2.putObj l (.loop { rcb with state := if jump.isNone then .ready else .done, pending := jump }) := ⟨_, rfl⟩
  rw [<- hW3]
  have hl4 : W3.heap[l]? = some (.loop { rcb with state := if jump.isNone then .ready else .done, pending := jump }) := by
   rw [hW3]; exact World.putObj_heap_same (Array.getElem?_eq_some_iff.1 hl3).1
  have hR4 : Rel (E.forkX w g F (zn6 l)) Y.n F2 (zg2 a2) W3 g2 := by
   rw [hW3]; exact hR3.setObjX hl3 (.inr (.inr rfl)) (by simp) (by simp) (by simp)
  have hX2 : ∀ b, zn6 l b -> ¬ ownB g2 F2.hp b := by
   intro b hb; rw [show b = l from hb]; exact zma hR4.mem hl4 (by simp) (by simp)
  refine ⟨hR.swap hR4 hX hX2 hnewX, hR.df, hyk, hnew, _, hl4, ?_⟩
  have hle := zun hR hR4 hX hX2
  rw [hrcb]
  refine ⟨?_, rfl, hrc.ps, hrc.asg, hrc.bd, hrc.sz, fun t => zew (C' := cx W3 g2 F2.hp) hle _ _ (hrc.rd t)⟩
  cases jump <;> rfl
 cases e with
 | normal =>
  obtain ⟨f1, f2⟩ := fin none
  exact ⟨_, _, f1, rfl, f2⟩
 | exit i =>
  obtain ⟨f1, f2⟩ := fin (some (.exit i))
  exact ⟨_, _, f1, rfl, f2⟩
 | ret =>
  obtain ⟨f1, f2⟩ := fin (some .ret)
  exact ⟨_, _, f1, rfl, f2⟩
end
section
variable {S : Type}
abbrev RgF (S : Type) := Nat -> Array Oper -> Bool -> St -> List Nat -> S -> Option (St × List Nat × S)
def zsz (base : Nat) (h h' : List (Nat × Blk)) (ws ws' : List Nat) : Prop := ∀ id, id < base -> id ∉ ws' -> id ∉ ws /\ getL h' id = getL h id
theorem zsz.refl {base : Nat} {h : List (Nat × Blk)} {ws : List Nat} : zsz base h h ws ws := fun _ _ hw => ⟨hw, rfl⟩
theorem zsz.trans {base : Nat} {h h1 h2 : List (Nat × Blk)} {ws ws1 ws2 : List Nat} (a : zsz base h h1 ws ws1) (b : zsz base h1 h2 ws1 ws2) : zsz base h h2 ws ws2 := fun id hid hw => by
 obtain ⟨k1, k2⟩ := b id hid hw
 obtain ⟨k3, k4⟩ := a id hid k1
 exact ⟨k3, k2.trans k4⟩
variable {P : Program} {n : Nat} {r : Option Nat} {J : En -> S -> FrS -> Act -> World -> Gh -> Prop}
def ya2q (P : Program) (base n : Nat) (r : Option Nat) (J : En -> S -> FrS -> Act -> World -> Gh -> Prop) (rgo : Nat -> Array Oper -> Bool -> Bool) (rg : RgF S) : Prop :=
 ∀ id ops draw st ws s st' ws' s', rgo id ops draw = true -> rg id ops draw st ws s = some (st', ws', s') -> st.nx <= st'.nx /\ zsz base st.heap st'.heap ws ws' /\ ∀ lim, st'.nx <= lim -> OkG P lim n r J (.region id ops draw) st s fun e t q => e = .normal /\ t = st' /\ q = s'
end
section
variable {S : Type} {P : Program} {tab : Nat -> TI} {call : FuncId -> List D -> List (Nat × Blk) -> Nat -> Option Out}
def zwo (S : Type) (call : FuncId -> List D -> List (Nat × Blk) -> Nat -> Option Out) (tab : Nat -> TI) (pt : Nat -> List (Nat × Nat)) (base : Nat) : RgF S := fun id ops draw st ws s =>
 match zva call tab base draw ops.toList ops.toList st ws [] with
 | some (st', ws', fps) => bif draw then (bif ya0v (pt id) fps then some (st', ws', s) else none) else some (st', ws', s)
 | none => none
def rgoK (K : List Nat) (n : Nat) (pt : Nat -> List (Nat × Nat)) : Nat -> Array Oper -> Bool -> Bool := fun id ops draw => zj0 n ops draw && (!draw || ya5r ops (pt id)) && znf K ops
theorem zu0 (hc : zk2 P call) (hT : zgy P tab) (hm : P.follows .mixedOrders = true) {pt : Nat -> List (Nat × Nat)} {base n : Nat} {r : Option Nat} {K : List Nat} {J : En -> S -> FrS -> Act -> World -> Gh -> Prop} (hS : Stab K J) :
  ya2q P base n r J (rgoK K n pt) (zwo S call tab pt base) := by
 intro id ops draw st ws s st' ws' s' hk h
 simp only [rgoK, za0, zas, Bool.not_eq_true'] at hk
 simp only [zwo] at h
 split at h
 rename_i st1 ws1 fps hr
 obtain ⟨h1, h2, h3⟩ := zpy hc _ _ _ _ _ _ _ hr
 cases draw with
 | false =>
  simp only [cond_false, za3, za6] at h
  obtain ⟨rfl, rfl, rfl⟩ := h
  refine ⟨h1, h2, fun lim hlim => ?_⟩
  obtain ⟨os, k1, _⟩ := h3 lim hlim
  exact .region0 hS (own := true) hT hm hk.1.1 hk.2 ⟨os, st1, k1, nofun, rfl, rfl, rfl⟩
 | true =>
  simp only [cond_true] at h
  cases hs : ya0v (pt id) fps
  rw [hs] at h; cases h
  rw [hs] at h
  simp only [cond_true, za3, za6] at h
  obtain ⟨rfl, rfl, rfl⟩ := h
  refine ⟨h1, h2, fun lim hlim => ?_⟩
  obtain ⟨os, k1, k2⟩ := h3 lim hlim
  have hcov := hk.1.2.resolve_left (by simp)
  refine .region0 hS (own := true) hT hm hk.1.1 hk.2 ⟨os, st1, k1, fun _ => ?_, rfl, rfl, rfl⟩
  rw [<- k2 rfl]
  exact zxf hcov hs
 cases h
abbrev YbF := List D -> List (Nat × Blk) -> Nat -> List Nat -> Option (Ex × List (Nat × Blk) × Nat × List Nat)
def zmz (ks : List Nat) (o : Oper) : Bool := match o.op with
 | .call c => match c.callee with
  | .value (.tmp t) => hasN ks t
  | _ => false
 | _ => false
def zrt (ks : List Nat) (o : Oper) : Option Nat := match o.op with
 | .move (.tmp t) => bif hasN ks t && o.guard.isNone then o.dst else none
 | _ => none
def zrp (ys : List Nat) (dst : Option Nat) : List Nat := match dst with
 | none => ys
 | some d => ys.filter fun t => !Nat.beq t d
theorem zpf {ys : List Nat} {dst : Option Nat} {t : Nat} (h : t ∈ zrp ys dst) : t ∈ ys /\ dst ≠ some t := by
 cases dst with
 | none => exact ⟨h, nofun⟩
 | some d =>
  simp only [zrp, List.mem_filter, Bool.not_eq_true'] at h
  refine ⟨h.1, fun e => ?_⟩
  cases e
  have := h.2
  simp at this
def zz8 (o : Oper) : List Operand := match o.op with
 | .call c => c.args.toList
 | _ => []
def St.putD (st : St) (dst : Option Nat) (d : D) : St := ⟨match dst with | some t => put st.vars t d | none => st.vars, st.heap, st.nx⟩
def zsc (yb : YbF) (o : Oper) (st : St) (ws : List Nat) : Option (Ex × St × List Nat) := match opds true (getR st.vars) (zz8 o) with
 | (ds, true) => match yb ds st.heap st.nx ws with
  | some (e, heap', nx', ws') => some (e, ⟨st.vars, heap', nx'⟩, ws')
  | none => none
 | _ => none
def ya0h (yb : YbF) (ops : List Oper) (o : Oper) (st : St) (ws : List Nat) (p : Option Code) : Option (St × List Nat × Option Code) :=
 match o.guard with
 | none => match p, zsc yb o st ws with
  | none, some (e, st', ws') => some (st'.putD o.dst (.bool e.isN), ws', e.pend)
  | _, _ => none
 | some (j, want) => match zq6 ops j with
  | none => none
  | some t => match gval want (getR st.vars t) with
   | some true => match p, zsc yb o st ws with
    | none, some (e, st', ws') => some (st'.putD o.dst (.when true (.bool e.isN)), ws', e.pend)
    | _, _ => none
   | some false => some (st.putD o.dst (.when false .undef), ws, p)
   | none => none
def runY (yb : YbF) (call : FuncId -> List D -> List (Nat × Blk) -> Nat -> Option Out) (tab : Nat -> TI) (base k : Nat) (ops : List Oper) : List Oper -> List Nat -> St -> List Nat -> Option Code -> Option (St × List Nat × Option Code)
 | [], _, st, ws, p => some (st, ws, p)
 | o :: l, ys, st, ws, p => match zrt (k :: ys) o with
  | some d => runY yb call tab base k ops l (d :: ys) (st.putD (some d) .undef) ws p
  | none => bif zmz (k :: ys) o then
   match ya0h yb ops o st ws p with
   | some (st', ws', p') => runY yb call tab base k ops l (zrp ys o.dst) st' ws' p'
   | none => none
  else match zzh call tab ops o st with
   | some out => runY yb call tab base k ops l (zrp ys o.dst) (st.app o.dst out) (addW base ws out.eff) p
   | none => none
def zv1 (P : Program) (base : Nat) (Y : YC) (yb : YbF) : Prop := ∀ ds heap nx ws e heap' nx' ws', yb ds heap nx ws = some (e, heap', nx', ws') -> nx <= nx' /\ zsz base heap heap' ws ws' /\ ∀ lim, nx' <= lim -> zv2 P lim Y ds heap nx e heap' nx'
theorem zu8 {F : FrS} {lim : Nat} {st : St} (h : F.on lim st) (dst : Option Nat) (d : D) : (F.put dst d).on lim (st.putD dst d) := by
 obtain ⟨h1, h2, h3⟩ := h
 refine ⟨?_, h2, h3⟩
 funext u
 simp only [FrS.put, St.putD, h1]
 cases dst with
 | none => simp
 | some t =>
  simp only [getR, zgb]
  by_cases e : t = u
  subst e; simp
  have : (some t == some u) = false := by simpa using e
  simp [e, this]
theorem YAt.put {Y : YC} {l : Nat} {E : En} {p : Option Code} {F : FrS} {a : Act} {w : World} {g : Gh} (h : YAt Y l E p F a w g) {dst : Option Nat} {d : D} {v : Value} (hd : dst ≠ some Y.k) : YAt Y l E p (F.put dst d) (a.put dst v) w g := by
 obtain ⟨h1, h2, h3, rc, h4, h5⟩ := h
 refine ⟨by rw [zfr]; exact h1, ?_, h3, rc, h4, ⟨h5.st, h5.pe, h5.ps, h5.asg, h5.bd, h5.sz, h5.rd⟩⟩
 rw [zja (K := [Y.k]) (a0 := a) (fun _ _ => rfl) (fun t ht => by simp only [List.mem_singleton] at ht; rw [ht]; exact hd) Y.k (by simp)]
 exact h2
theorem zln {a : Act} (h : a.defers = []) : zg2 a = a := by cases a; cases h; rfl
theorem zoo {base : Nat} {Y : YC} {yb : YbF} (hy : zv1 P base Y yb) {o : Oper} (hok : opOk o.op = true) {ys : List Nat} (hyo : zmz (Y.k :: ys) o = true) {st st' : St} {ws ws' : List Nat} {e : Ex} (h : zsc yb o st ws = some (e, st', ws')) :
  st.nx <= st'.nx /\ zsz base st.heap st'.heap ws ws' /\ ∀ lim, st'.nx <= lim -> ∀ (l n : Nat) (E : En) (F : FrS) (a : Act) (w : World) (g : Gh), F.on lim st -> Rel E n F a w g -> YAt Y l E none F a w g -> (∀ t ∈ ys, a.tmps[t]? = some (.func (.yield l) #[] #[])) ->
   ∀ (K : Act -> World -> Prop) (Q : Exit -> Act -> World -> Prop), (∀ F' w' g', F'.on lim st' -> Rel E n F' a w' g' -> YAt Y l E e.pend F' a w' g' -> K (a.put o.dst (.bool e.isN)) w') -> o.wpIn (zkm none) 0 P a w K Q := by
 unfold zsc at h
 split at h
 rename_i ds hds
 split at h
 rename_i e1 heap' nx' ws1 hb
 simp only [za3, za6] at h
 obtain ⟨rfl, rfl, rfl⟩ := h
 obtain ⟨h1, h2, h3⟩ := hy _ _ _ _ _ _ _ _ hb
 refine ⟨h1, h2, fun lim hlim l n E F a w g hF hR hJ hys K Q hK => ?_⟩
 unfold zmz at hyo
 split at hyo
 rename_i c hop
 split at hyo
 rename_i t hc
 have htv : a.tmps[t]? = some (.func (.yield l) #[] #[]) := by
  rcases List.mem_cons.1 (zqo.1 hyo) with rfl | h
  exact hJ.2.1
  exact hys t h
 have hx1 : ∀ x ∈ o.op.operands.toList, zcz x = true := fun x hx => List.all_eq_true.1 hok x hx
 have hma : ∀ x ∈ c.args.toList, x ∈ o.op.operands.toList := by
  intro x hx
  rw [hop]
  simp only [Op.operands, Call.operands, hc, Array.toList_append, List.mem_append]
  exact .inr hx
 have hya : zz8 o = c.args.toList := by unfold zz8; rw [hop]
 rw [hya, <- hF.1] at hds
 have hvs := zjr hR.rd _ _ _ hds rfl (List.all_eq_true.2 fun x hx => hx1 x (hma x hx))
 obtain ⟨f, tmps, assign, body, hrun, hrd⟩ := ya30 hF hR hJ hvs (h3 lim hlim)
 have hev : a.eval (.tmp t) = .func (.yield l) #[] #[] := by
  show a.tmps.getD t undef = _
  rw [Array.getD_eq_getD_getElem?, htv]; rfl
 refine ⟨fun _ _ => trivial, ?_⟩
 have hex : (o.semAt (zkm none).round a.eval).run P w = .ok (.round l f tmps assign body) w := by
  rw [Oper.semAt_eq _ _ _ (fun c' hc' => by rw [hop] at hc'; cases hc')]
  unfold execOp
  simp only [hop, resolve, hc, hev, Deferred.ofValue, pure_bind, invoke]
  rw [<- hrun]
  congr 2
  apply Array.ext'; simp
 rw [hex, Oper.uponIn_round]
 refine ⟨nofun, hrd.mono ?_⟩
 rintro x w' ⟨rfl, F', g', k1, k2, k3⟩
 exact hK F' w' g' k1 k2 k3
 cases hyo
 cases hyo
 cases h
 cases h
theorem zjg (hc : zk2 P call) (hT : zgy P tab) {base n : Nat} {Y : YC} {yb : YbF} (hy : zv1 P base Y yb) {ops : Array Oper} (hok : zwx n ops = true) (hK : znf [Y.k] ops = true) : ∀ (l : List Oper) (i : Nat) (ys : List Nat) (st st' : St) (ws ws' : List Nat) (p p' : Option Code), (∀ j, l[j]? = ops[i + j]?) ->
  runY yb call tab base Y.k ops.toList l ys st ws p = some (st', ws', p') -> st.nx <= st'.nx /\ zsz base st.heap st'.heap ws ws' /\ ∀ lim, st'.nx <= lim -> ∀ (l0 : Nat) (E : En) (F : FrS) (a : Act) (w : World) (g : Gh), F.on lim st -> Rel E n F a w g -> YAt Y l0 E p F a w g -> (∀ t ∈ ys, a.tmps[t]? = some (.func (.yield l0) #[] #[])) ->
   wpOpsIn (zkm none) 0 P ops (fun e a' w' => e = .normal /\ ∃ F' g', F'.on lim st' /\ Rel E n F' a' w' g' /\ YAt Y l0 E p' F' a' w' g') (List.range' i l.length) a w
 | [], i, ys, st, st', ws, ws', p, p', _, h => by
  simp only [runY, za3, za6] at h
  obtain ⟨rfl, rfl, rfl⟩ := h
  exact ⟨za4 _, .refl, fun lim _ l0 E F a w g hF hR hJ _ => ⟨rfl, F, g, hF, hR, hJ⟩⟩
 | o :: l, i, ys, st, st', ws, ws', p, p', hl, h => by
  have hi : ops[i]? = some o := by have := hl 0; simpa using this.symm
  have hl' : ∀ j, l[j]? = ops[i + 1 + j]? := fun j => by have := hl (j + 1); simpa [Nat.add_assoc, Nat.add_comm 1 j] using this
  obtain ⟨q1, q2, q3⟩ := zu7 hok hi
  have hdk := zrr hK hi
  have hdk' : o.dst ≠ some Y.k := hdk Y.k (by simp)
  simp only [runY] at h
  simp only [za5, List.range'_succ]
  have hless : ∀ (l0 : Nat) (a : Act) (v : Value), (∀ t ∈ ys, a.tmps[t]? = some (.func (.yield l0) #[] #[])) -> ∀ t ∈ zrp ys o.dst, (a.put o.dst v).tmps[t]? = some (.func (.yield l0) #[] #[]) := by
   intro l0 a v hys t ht
   obtain ⟨k1, k2⟩ := zpf ht
   rw [zja (K := [t]) (a0 := a) (fun _ _ => rfl) (fun u hu => by simp only [List.mem_singleton] at hu; rw [hu]; exact k2) t (by simp)]
   exact hys t k1
  split at h
  rename_i d hmv
  obtain ⟨g1, g2, g3⟩ := zjg hc hT hy hok hK l (i + 1) _ _ _ _ _ _ _ hl' h
  refine ⟨g1, g2, fun lim hlim l0 E F a w g hF hR hJ hys => ?_⟩
  unfold zrt at hmv
  split at hmv
  rename_i t hop
  cases hb : (hasN (Y.k :: ys) t && o.guard.isNone)
  rw [hb] at hmv; cases hmv
  rw [hb] at hmv
  simp only [cond_true] at hmv
  simp only [za0, Option.isNone_iff_eq_none] at hb
  have htv : a.tmps[t]? = some (.func (.yield l0) #[] #[]) := by
   rcases List.mem_cons.1 (zqo.1 hb.1) with rfl | h
   exact hJ.2.1
   exact hys t h
  have hev : a.eval (.tmp t) = .func (.yield l0) #[] #[] := by
   show a.tmps.getD t undef = _
   rw [Array.getD_eq_getD_getElem?, htv]; rfl
  have hw : Region.wanted o (yielded ops a.tmps) = true := by simp [Region.wanted, hb.2]
  simp only [wpOpsIn, hi, hw, if_true]
  refine ⟨fun _ _ => trivial, ?_⟩
  have hex : (o.semAt (zkm none).round a.eval).run P w = .ok (.value (.func (.yield l0) #[] #[])) w := by
   rw [Oper.semAt_eq _ _ _ (fun c' hc' => by rw [hop] at hc'; cases hc')]
   unfold execOp
   simp only [hop, hev, Sem.run_pure]
  rw [hex, Oper.uponIn_value]
  rw [hmv] at hdk' q2 ⊢
  refine g3 lim hlim l0 E _ _ _ g (zu8 hF (some d) .undef) (hR.put q2 (by simp only [rep])) (hJ.put hdk') fun u hu => ?_
  have hlt : d < a.tmps.size := Nat.lt_of_lt_of_le (q2 d rfl) hR.sz
  by_cases e : d = u
  subst e
  simp [Act.put, hlt]
  rw [zja (K := [u]) (a0 := a) (fun _ _ => rfl) (fun x hx => by simp only [List.mem_singleton] at hx; rw [hx]; simpa using e) u (by simp)]
  rcases List.mem_cons.1 hu with rfl | hu
  exact absurd rfl e
  exact hys u hu
  cases hmv
  rename_i hmv
  cases hyo : zmz (Y.k :: ys) o with
  | true =>
   rw [hyo] at h
   simp only [cond_true] at h
   split at h
   rename_i st1 ws1 p1 hx
   unfold ya0h at hx
   split at hx
   rename_i hgd
   split at hx
   rename_i e st2 ws2 hd
   simp only [za3, za6] at hx
   obtain ⟨rfl, rfl, rfl⟩ := hx
   obtain ⟨h1, h2, h3⟩ := zoo hy q1 hyo hd
   obtain ⟨g1, g2, g3⟩ := zjg hc hT hy hok hK l (i + 1) _ _ _ _ _ _ _ hl' h
   refine ⟨zar h1 g1, h2.trans g2, fun lim hlim l0 E F a w g hF hR hJ hys => ?_⟩
   have hw : Region.wanted o (yielded ops a.tmps) = true := by simp [Region.wanted, hgd]
   simp only [wpOpsIn, hi, hw, if_true]
   refine h3 lim (zar g1 hlim) l0 n E F a w g hF hR hJ hys _ _ fun F' w' g' k1 k2 k3 => ?_
   exact g3 lim hlim l0 E _ _ _ g' (zu8 k1 o.dst (.bool e.isN)) (k2.put q2 (by simp only [rep])) (k3.put hdk') (hless l0 a _ hys)
   cases hx
   rename_i j want hgd
   split at hx
   cases hx
   rename_i t ht
   have ht' : zmg ops j = some t := by
    rw [zlk] at ht
    simpa [zmg] using ht
   split at hx
   rename_i hgv
   split at hx
   rename_i e st2 ws2 hd
   simp only [za3, za6] at hx
   obtain ⟨rfl, rfl, rfl⟩ := hx
   obtain ⟨h1, h2, h3⟩ := zoo hy q1 hyo hd
   obtain ⟨g1, g2, g3⟩ := zjg hc hT hy hok hK l (i + 1) _ _ _ _ _ _ _ hl' h
   refine ⟨zar h1 g1, h2.trans g2, fun lim hlim l0 E F a w g hF hR hJ hys => ?_⟩
   have hlt : t < a.tmps.size := Nat.lt_of_lt_of_le (q3 j want t hgd ht') hR.sz
   have hw : Region.wanted o (yielded ops a.tmps) = true := zqw hgd ht' hlt (by rw [<- hF.1] at hgv; exact hR.rd t) (by rw [<- hF.1] at hgv; exact hgv)
   simp only [wpOpsIn, hi, hw, if_true]
   refine h3 lim (zar g1 hlim) l0 n E F a w g hF hR hJ hys _ _ fun F' w' g' k1 k2 k3 => ?_
   exact g3 lim hlim l0 E _ _ _ g' (zu8 k1 o.dst (.when true (.bool e.isN))) (k2.put q2 (by simp [rep])) (k3.put hdk') (hless l0 a _ hys)
   cases hx
   rename_i hgv
   simp only [za3, za6] at hx
   obtain ⟨rfl, rfl, rfl⟩ := hx
   obtain ⟨g1, g2, g3⟩ := zjg hc hT hy hok hK l (i + 1) _ _ _ _ _ _ _ hl' h
   refine ⟨g1, g2, fun lim hlim l0 E F a w g hF hR hJ hys => ?_⟩
   have hlt : t < a.tmps.size := Nat.lt_of_lt_of_le (q3 j want t hgd ht') hR.sz
   have hw : Region.wanted o (yielded ops a.tmps) = false := zqw hgd ht' hlt (by rw [<- hF.1] at hgv; exact hR.rd t) (by rw [<- hF.1] at hgv; exact hgv)
   simp only [wpOpsIn, hi, hw, zan, if_false]
   exact ⟨fun _ _ => trivial, g3 lim hlim l0 E _ _ _ g (zu8 hF o.dst (.when false .undef)) (hR.put q2 (by simp [rep])) (hJ.put hdk') (hless l0 a _ hys)⟩
   cases hx
   cases h
  | false =>
   rw [hyo] at h
   simp only [cond_false] at h
   split at h
   rename_i out hx
   obtain ⟨h1, h2⟩ := zqy hc hx
   obtain ⟨g1, g2, g3⟩ := zjg hc hT hy hok hK l (i + 1) _ _ _ _ _ _ _ hl' h
   refine ⟨zar h1 g1, zsz.trans (fun id hid hw => ?_) g2, fun lim hlim l0 E F a w g hF hR hJ hys => ?_⟩
   obtain ⟨k3, k4⟩ := zp4 base _ _ id hid hw
   refine ⟨k3, ?_⟩
   simp only [St.app, zok]
   exact zsa k4
   obtain ⟨f1, f2⟩ := h2 lim (zar g1 hlim)
   have hk1 : wpOp P ops (fun e a' w' => e = .normal /\ ∃ g', Rel (E.fork w g F) n (F.app o out) a' w' g') i (wpOps P ops (fun e a' w' => e = .normal /\ ∃ g', Rel (E.fork w g F) n (F.app o out) a' w' g') []) a w :=
    znm hT hi q1 q2 q3 hR.fork (zuo hF f1) fun v w' g' hrel => ⟨rfl, g', hrel⟩
   rw [<- wpOps_cons] at hk1
   have hk2 := zmt (R := fun a' w' => (∃ g', Rel (E.fork w g F) n (F.app o out) a' w' g') /\ kept (Y.k :: zrp ys o.dst) a a') (fun a' w' ⟨⟨_, h⟩, _⟩ => h.df) none 0 [] _ _ _ (zkl (K := Y.k :: zrp ys o.dst) (a0 := a) _ _ _ (fun j hj o' ho' => by
    simp only [List.mem_singleton] at hj
    rw [hj, hi] at ho'
    cases ho'
    intro t ht
    rcases List.mem_cons.1 ht with rfl | ht
    exact hdk'
    exact (zpf ht).2) (fun _ _ => rfl) hk1)
   rw [show zqv a [] = a from zln hJ.1] at hk2
   refine zt0 hk2 ?_
   rintro a' w' ⟨hd', ⟨g', hrel⟩, hkept⟩
   rw [zln hd'] at hrel hkept
   refine g3 lim hlim l0 E _ a' w' g' (ya1e hF o _ f2) (hR.join hrel) ?_ fun t ht => (hkept t (by simp [ht])).trans (hys t (zpf ht).1)
   exact ya4s E n F _ a a' w w' g g' p hJ (by rw [zln hJ.1]; exact hR) (by rw [zln hd']; exact hrel) (by rw [hd', hJ.1]) (fun t ht => hkept t (by simp only [List.mem_singleton] at ht; simp [ht]))
   cases h
def rgY (yb : YbF) (call : FuncId -> List D -> List (Nat × Blk) -> Nat -> Option Out) (tab : Nat -> TI) (pt : Nat -> List (Nat × Nat)) (base k : Nat) : RgF (Option Code) := fun id ops draw st ws p =>
 bif draw then zwo (Option Code) call tab pt base id ops draw st ws p else runY yb call tab base k ops.toList ops.toList [] st ws p
theorem ya0y (hc : zk2 P call) (hT : zgy P tab) (hm : P.follows .mixedOrders = true) {pt : Nat -> List (Nat × Nat)} {base n : Nat} {Y : YC} {yb : YbF} (hy : zv1 P base Y yb) (l0 : Nat) :
  ya2q P base n none (YAt Y l0) (rgoK [Y.k] n pt) (rgY yb call tab pt base Y.k) := by
 intro id ops draw st ws p st' ws' p' hk h
 unfold rgY at h
 cases draw with
  | true => exact zu0 hc hT hm ya4s id ops true st ws p st' ws' p' hk h
  | false =>
   simp only [cond_false] at h
   simp only [rgoK, zj0, za0] at hk
   obtain ⟨h1, h2, h3⟩ := zjg hc hT hy hk.1.1.1 hk.2 _ 0 _ _ _ _ _ _ _ (fun j => by simp) h
   refine ⟨h1, h2, fun lim hlim E F a w g hF hR hJ => wpIn_region ?_⟩
   have hb := zln hJ.1
   rw [hb] at hR
   have := h3 lim hlim l0 E F a w g hF hR hJ nofun
   rw [List.range_eq_range']
   simp only [Array.length_toList] at this
   have hmono : ∀ (l : List Nat) (a : Act) (w : World), wpOpsIn (zkm none) 0 P ops (fun e a' w' => e = .normal /\ ∃ F' g', F'.on lim st' /\ Rel E n F' a' w' g' /\ YAt Y l0 E p' F' a' w' g') l a w ->
     wpOpsIn (zkm none) 0 P ops (fun e a' w' => ∃ st'_1 s' F' g', (e = .normal /\ st'_1 = st' /\ s' = p') /\ F'.on lim st'_1 /\ Rel E n F' (zg2 a') w' g' /\ YAt Y l0 E s' F' a' w' g') l a w := by
    intro l
    induction l with
    | nil =>
     rintro a w ⟨_, F', g', k1, k2, k3⟩
     exact ⟨st', p', F', g', ⟨rfl, rfl, rfl⟩, k1, by rw [zln k3.1]; exact k2, k3⟩
    | cons i l ih =>
     intro a w h
     simp only [wpOpsIn] at h ⊢
     cases ho : ops[i]? with
     | none => simp only [ho] at h ⊢; exact ih _ _ h
     | some o =>
      simp only [ho] at h ⊢
      split at h
      rename_i hw
      rw [if_pos hw]
      refine ⟨h.1, ?_⟩
      have h2 := h.2
      generalize (o.semAt (zkm none).round a.eval).run P w = res at h2
      cases res with
      | ok x w' =>
       cases x with
       | value v => exact ih _ _ h2
       | skip => exact ih _ _ h2
       | defer d => exact ih _ _ h2
       | enter f args =>
        rw [Oper.uponIn_enter] at h2 ⊢
        refine ⟨h2.1, h2.2.1, fun cs hr => ?_⟩
        obtain ⟨e, w2, fr, hq, hrest⟩ := h2.2.2 cs hr
        refine ⟨e, w2, fr, ?_, hrest⟩
        cases e with
        | returned v => exact ih _ _ hq
        | panicked ch => cases hq.1
        | outgrown => obtain ⟨_, _, h1, _⟩ := hq; cases h1
       | row row args =>
        rw [Oper.uponIn_row] at h2 ⊢
        exact ⟨h2.1, h2.2.mono fun v w'' hq => ih _ _ hq⟩
       | round l f tmps assign body =>
        rw [Oper.uponIn_round] at h2 ⊢
        refine ⟨h2.1, h2.2.mono fun e w'' hq => ?_⟩
        cases e with
        | returned v => exact ih _ _ hq
        | panicked ch => cases hq.1
        | outgrown => obtain ⟨_, _, h1, _⟩ := hq; cases h1
       | _ => exact h2.elim
      | halt x w' =>
       cases x with
       | panic v => cases (show Exit.panic _ = Exit.normal /\ _ from h2).1
       | _ => exact h2.elim
      rename_i hw
      rw [if_neg hw]
      exact ⟨h.1, ih _ _ h.2⟩
   exact hmono _ _ _ this
end
section
variable {P : Program} {lim n : Nat} {st : St} {B : List (Nat × Obj)} {tab : Nat -> TI}
theorem OkG.rangeY (hT : zgy P tab) (hB : znx B) {gop : Operand} {ps : Array Tmp} {assign body : Code} {K : FuncId} {caps : List D} {fn : Func} {ci : Code} (hk : zcz gop = true) (hg : ev (getR st.vars) gop = .fn (.func K) caps)
  (hf : P.funcs[K]? = some fn) (hname : fn.name ≠ "runtime.NumGoroutine") (hb : fn.body = some ci) (hlen : caps.length + 1 <= fn.ntmps) {sti : St} {p : Option Code} {ds : List D} (hres : resL tab sti fn.results.toList = some (ds, true))
  (hi : ∀ l, OkG P lim fn.ntmps none (YAt ⟨0, n, st.vars, ps, assign, body⟩ l) ci ⟨zfn 0 (.undef :: caps), st.heap, st.nx⟩ none fun e s q => (e = .normal \/ e = .ret) /\ s = sti /\ q = p)
  {e0 : Ex} (hp : e0.pend = p) : OkG P lim n none (JM B) (.rangeFunc gop ps assign body) st () fun e s _ => e = e0.to /\ s = ⟨st.vars, sti.heap, sti.nx⟩ := by
 intro E F a w g hF hR hJ
 have hgv := zy4 hR.rd gop hk
 rw [hF.1, hg, ztq] at hgv
 simp only [rep] at hgv
 obtain ⟨cv, hgv, hcv⟩ := hgv
 replace hgv : _ = Value.func (.func K) #[] cv.toArray := hgv
 have hEn : zlx P K := ⟨fn, hf, hname, by rw [hb]; rfl⟩
 refine wpIn_rangeFunc ?_
 intro fn0 _
 obtain ⟨rc, hrc⟩ : ∃ rc : Loop, rc = { state := .ready, pending := none, fn := fn0, tmps := a.tmps, params := ps, assign, body, defers := w.heap.size } := ⟨_, rfl⟩
 obtain ⟨W1, hW1⟩ : ∃ W1, (w.alloc (.deferred (some []))).alloc (.loop rc) = W1 := ⟨_, rfl⟩
 obtain ⟨l, hl0⟩ : ∃ l, l = w.heap.size + 1 := ⟨_, rfl⟩
 have hsz1 : W1.heap.size = w.heap.size + 2 := by rw [<- hW1]; simp
 have hL1 : W1.heap[l]? = some (.loop rc) := by
  rw [<- hW1, hl0]; have := World.alloc_heap_new (w.alloc (.deferred (some []))) (.loop rc); rwa [World.size_alloc] at this
 have hK1 : W1.heap[w.heap.size]? = some (.deferred (some [])) := by
  rw [<- hW1]; exact (Below.heap_alloc _ _ _ (by simp)).trans (World.alloc_heap_new w _)
 have hkeep : Keep (fun _ => False) w W1 := by
  rw [<- hW1]; exact (Keep.alloc _ w _).trans (Keep.alloc _ _ _)
 have hR1 : Rel E n F (zg2 a) W1 g := Rel.ext hR hkeep
 have hcv1 : reps (cx W1 g F.hp) (.undef :: caps) (.func (.yield l) #[] #[] :: cv) := by
  simp only [reps]
  exact ⟨_, _, rfl, by simp only [rep], zgv (Rel.ext_le hkeep) _ _ hcv⟩
 have harr : (Value.func (.yield l) #[] #[] :: cv).toArray = #[.func (.yield l) #[] #[]] ++ cv.toArray := by simp
 have hcl : cv.length = caps.length := zdc _ _ hcv
 refine ⟨l, [mark w.heap.size], W1, { target := .fn (.func K) cv.toArray, args := #[.func (.yield l) #[] #[]] }, W1, K,
  #[.func (.yield l) #[] #[]] ++ cv.toArray, W1, ?_, ?_, fun _ _ => trivial, ?_, nofun, ?_⟩
 rw [<- hW1, hrc, hl0]; exact run_enterLoop_outer _ _ _ _ _
 simp only [resolve, hgv]
 simp [go_sem]
 simp [invoke, go_sem, zr7 hEn]
 ·have hRi : Rel (E.forkX W1 g F (zn6 l)) fn.ntmps ⟨getR (zfn 0 (.undef :: caps)), F.hp, F.nu⟩ { tmps := (#[.func (.yield l) #[] #[]] ++ cv.toArray) ++ Array.replicate (fn.ntmps - (#[Value.func (.yield l) #[] #[]] ++ cv.toArray).size) undef, defers := [] } W1 g := by
   refine ⟨by simp; omega, rfl, fun t => ?_, hR1.mem, fun id b o h1 h2 => .inr (.inl ⟨id, o, h1, h2⟩), Keep.refl _ _, ⟨rfl, rfl⟩, fun _ _ => rfl, fun _ h => h⟩
   refine zry (.undef :: caps) (.func (.yield l) #[] #[] :: cv) 0 t hcv1 _ fun j v hj => ?_
   rw [<- harr, Nat.zero_add, Array.getElem?_append_left (by simpa using (List.getElem?_eq_some_iff.1 hj).1)]
   simpa using hj
  have hJi : YAt ⟨0, n, st.vars, ps, assign, body⟩ l (E.forkX W1 g F (zn6 l)) none ⟨getR (zfn 0 (.undef :: caps)), F.hp, F.nu⟩ { tmps := (#[.func (.yield l) #[] #[]] ++ cv.toArray) ++ Array.replicate (fn.ntmps - (#[Value.func (.yield l) #[] #[]] ++ cv.toArray).size) undef, defers := [] } W1 g := by
   refine ⟨rfl, ?_, .inr (.inr rfl), rc, hL1, ?_⟩
   rw [<- harr]
   show (_ ++ _ : Array Value)[0]? = _
   rw [Array.getElem?_append_left (by simp)]
   simp
   rw [hrc]
   refine ⟨rfl, rfl, rfl, rfl, rfl, hR.sz, fun t => ?_⟩
   have := hR1.rd t
   rw [hF.1] at this
   exact this
  refine zz7 (calls_of_wp hf hb (wpIn_wide.1 (wpIn_mono (hi l (E.forkX W1 g F (zn6 l)) ⟨getR (zfn 0 (.undef :: caps)), F.hp, F.nu⟩ _ W1 g ⟨rfl, hF.2.1, hF.2.2⟩ hRi hJi) ?_)))
  rintro e' a' w' ⟨s, q, F', g', ⟨he, rfl, rfl⟩, hF', hR', hd', hy', _, rcp, hl', hrcp⟩
  rw [zln hd'] at hR'
  obtain ⟨v, hv, _⟩ := ztb hT hR' hF'.1 hF'.2.1 hres
  obtain ⟨W4, hW4⟩ : ∃ W4, W4 = w'.putObj l (.loop { rcp with state := .exhausted }) := ⟨_, rfl⟩
  have hl4 : W4.heap[l]? = some (.loop { rcp with state := .exhausted }) := by
   rw [hW4]; exact World.putObj_heap_same (Array.getElem?_eq_some_iff.1 hl').1
  have hR4 : Rel (E.forkX W1 g F (zn6 l)) fn.ntmps F' a' W4 g' := by
   rw [hW4]; exact hR'.setObjX hl' (.inr (.inr rfl)) (by simp) (by simp) (by simp)
  have hX : ∀ b, zn6 l b -> ∃ o, W1.heap[b]? = some o /\ ∀ cs T f, o ≠ .cells cs T f := by
   intro b hb; rw [show b = l from hb]; exact ⟨_, hL1, by simp⟩
  have hX2 : ∀ b, zn6 l b -> ¬ ownB g' F'.hp b := by
   intro b hb; rw [show b = l from hb]; exact zma hR4.mem hl4 (by simp) (by simp)
  have hlE : E.w0.heap.size <= w.heap.size := hR.keep.size
  have hnewX : ∀ b, zn6 l b -> E.w0.heap.size <= b \/ E.X b := by
   intro b hb; rw [show b = l from hb]; exact .inl (by omega)
  have hR5 := hR1.swap hR4 hX hX2 hnewX
  have hstay : ∀ (b : Nat) (o : Obj), W1.heap[b]? = some o -> b ≠ l -> (∀ cs T f, o ≠ .cells cs T f) -> (∀ es c, o ≠ .map es c) -> W4.heap[b]? = some o := by
   intro b o hb hne h1 h2
   rw [hR4.keep.block b (Array.getElem?_eq_some_iff.1 hb).1 ?_]
   exact hb
   rintro (h | h)
   exact zma hR1.mem hb h1 h2 h
   exact hne h
  have hJ5 : JM B E () ⟨F.rd, F'.hp, F'.nu⟩ { a with defers := [mark w.heap.size] ++ a.defers } W4 g' := by
   obtain ⟨⟨Ds, hDs, hnd, hall⟩, hBs⟩ := hJ
   have old : ∀ D ∈ Ds, D < w.heap.size := fun D hD => (Array.getElem?_eq_some_iff.1 (hall D hD).2).1
   refine ⟨⟨w.heap.size :: Ds, by simp [hDs, mark], List.nodup_cons.2 ⟨fun h => by have := old _ h; omega, hnd⟩, fun D hD => ?_⟩, fun x hx => ?_⟩
   rcases List.mem_cons.1 hD with rfl | h
   exact ⟨hlE, hstay _ _ hK1 (by omega) (by simp) (by simp)⟩
   refine ⟨(hall D h).1, hstay _ _ ?_ (by have := old D h; omega) (by simp) (by simp)⟩
   rw [hkeep.block D (old D h) id]; exact (hall D h).2
   have h := hBs x hx
   have hlt : x.1 < w.heap.size := (Array.getElem?_eq_some_iff.1 h).1
   refine hstay _ _ ?_ (by omega) (hB x hx).1 (hB x hx).2
   rw [hkeep.block _ hlt id]; exact h
  have hend : (Instr.endLoop l).run P w' = .ok q W4 := by
   have := run_endLoop (P := P) hl' (by rw [hrcp.st]; cases q <;> simp)
   rw [<- hW4] at this
   rw [this, hrcp.pe]
  have post : rangePost (zkm none) 0 P l (fun e a' w' => ∃ st' s' F' g', (e = e0.to /\ st' = ⟨st.vars, s.heap, s.nx⟩) /\ F'.on lim st' /\ Rel E n F' (zg2 a') w' g' /\ JM B E s' F' a' w' g') { a with defers := [mark w.heap.size] ++ a.defers } (.returned v) w' := by
   refine ⟨q, W4, hend, ?_⟩
   have fin : ∃ st' s' F' g', (e0.to = e0.to /\ st' = ⟨st.vars, s.heap, s.nx⟩) /\ F'.on lim st' /\ Rel E n F' (zg2 { a with defers := [mark w.heap.size] ++ a.defers }) W4 g' /\ JM B E s' F' { a with defers := [mark w.heap.size] ++ a.defers } W4 g' :=
    ⟨_, (), ⟨F.rd, F'.hp, F'.nu⟩, g', ⟨rfl, rfl⟩, ⟨hF.1, hF'.2.1, hF'.2.2⟩, hR5, hJ5⟩
   subst hp
   cases e0 with
   | normal => exact fin
   | exit i => exact wpIn_exit fin
   | ret => exact wpIn_ret fin
  rcases he with rfl | rfl <;> exact ⟨hd', v, hv, post⟩
end
section
variable {P : Program} {tab : Nat -> TI} {call : FuncId -> List D -> List (Nat × Blk) -> Nat -> Option Out}
theorem OkG.toR {lim n : Nat} {c : Code} {st : St} {Q : Exit -> St -> Unit -> Prop} (h : OkG P lim n none (JM []) c st () Q) : OkR P lim n none c st fun e s => Q e s () :=
 fun E F a w g hF hR hM => wpIn_mono (h E F a w g hF hR ⟨hM, nofun⟩) fun _ _ _ ⟨st', _, F', g', h1, h2, h3, h4⟩ => ⟨st', F', g', h1, h2, h3, h4.1⟩
end
def noCall : CallF := fun _ _ _ _ => none
theorem zvk {P : Program} : zk2 P noCall := fun _ _ _ _ _ h => by cases h
section
variable {P : Program} {tab : Nat -> TI} (hT : zgy P tab) (hm : P.follows .mixedOrders = true) {ft fr : Nat -> Option Func} {pt : Nat -> Nat -> List (Nat × Nat)} (hft : FtOk P ft pt) {LF n : Nat} {l : List Ent}
end
end Go.Tm
namespace Go.Tm
open Go.RowKit Go.WideShapes
theorem zzv (ops : Array Oper) : znf [] ops = true := by
 unfold znf
 refine List.all_eq_true.2 fun o _ => ?_
 cases o.dst <;> rfl
def OkB (P : Program) (lim n : Nat) (r : Option Nat) (B : List (Nat × Obj)) (c : Code) (st : St) (Q : Exit -> St -> Prop) : Prop :=
 OkG P lim n r (JM B) c st () fun e s _ => Q e s
def seqB (P : Program) (lim n : Nat) (r : Option Nat) (B : List (Nat × Obj)) (y : Code) (Q : Exit -> St -> Prop) : Exit -> St -> Prop := fun e s => match e with | .normal => OkB P lim n r B y s Q | e => Q e s
section
variable {P : Program} {tab : Nat -> TI} {lim n : Nat} {r : Option Nat} {B : List (Nat × Obj)} {st : St} {Q : Exit -> St -> Prop}
theorem OkB.seq {x y : Code} (h : OkB P lim n r B x st (seqB P lim n r B y Q)) : OkB P lim n r B (.seq x y) st Q := by
 refine OkG.seq (OkG.mono h fun e s _ k => ?_)
 cases e with
 | normal => exact k
 | _ => exact k
theorem OkB.block {id : Nat} {c : Code} (h : OkB P lim n r B c st (ya2f id Q)) : OkB P lim n r B (.block id c) st Q := by
 refine OkG.block (OkG.mono h fun e s _ k => ?_)
 cases e with
 | exit i => exact k
 | _ => exact k
theorem OkB.cond {c : Operand} {x y : Code} {b : Bool} (hk : zcz c = true) (hc : ev (getR st.vars) c = .bool b) (h1 : b = true -> OkB P lim n r B x st Q) (h2 : b = false -> OkB P lim n r B y st Q) : OkB P lim n r B (.cond c x y) st Q := OkG.cond hk hc h1 h2
theorem OkB.skip (h : Q .normal st) : OkB P lim n r B .skip st Q := OkG.skip h
theorem OkB.exit {id : Nat} (h : Q (.exit id) st) : OkB P lim n r B (.exit id) st Q := OkG.exit h
theorem OkB.ret (h : Q .ret st) : OkB P lim n r B .ret st Q := OkG.ret h
theorem OkB.goes {c : Code} {s : St} (h : Goes lim st.nx st s) (k : OkB P lim n r B c s Q) : OkB P lim n r B c st Q := by
 intro E F a w g hF hR hJ
 obtain ⟨F', g', hF', hR'⟩ := h E n F (zg2 a) w g (fun id h1 h2 => hR.nu id (hF.2.2 id h1 h2)) hF hR
 exact k E F' a w g' hF' hR' hJ
theorem OkB.rg {id : Nat} {ops : Array Oper} {draw : Bool} (S : Seat P tab) (V : List Nat) (hB : znx B) (h : RegA P tab true lim ops draw ⟨keep V st.vars, st.heap, st.nx⟩ (Q .normal)) (hok : zj0 n ops draw = true := by decide +kernel) : OkB P lim n r B (.region id ops draw) st Q := by
 intro E F a w g hF hR hJ
 obtain ⟨F', hF', hR'⟩ := hR.sub hF (st' := ⟨keep V st.vars, st.heap, st.nx⟩) ⟨fun t d h => zs1 V _ t d h, fun _ _ h => h, za4 _⟩
 exact OkG.region0 (s := ()) (K := []) (ya8h hB) S.tm S.mixed hok (zzv ops) h E F' a w g hF' hR' hJ
theorem zw8 (hT : zgy P tab) {K : FuncId} {fn : Func} {c : Code} {args : List D} {res : D} (lim : Nat) (hf : P.funcs[K]? = some fn) (hb : fn.body = some c) (hname : fn.name ≠ "runtime.NumGoroutine") (hr : res.ids = []) (hk : okM new1 res = true) (hlen : args.length <= fn.ntmps)
  (h : wfL args -> OkB P lim fn.ntmps none [] c ⟨zfn 0 args, [], 0⟩ fun e st => (e = .normal \/ e = .ret) /\ ∃ ds, resL tab st fn.results.toList = some (ds, true) /\ resT ds = res) : zb9 P K args res := by
 refine zfa (eff := []) (nw := (0, lim)) hr hk (zus ⟨fn, hf, hname, by rw [hb]; rfl⟩ fun hwf => ?_)
 refine zw9 hT hf hb hname hlen (fun x hx => by cases hx) ((OkG.toR (h hwf)).mono ?_)
 rintro e st ⟨h1, ds, h2, h3⟩
 exact ⟨h1, ds, h2, h3, [], (fun i x h => by cases h), rfl⟩
end
open Classical in
noncomputable def yb1 (ds : List D) (heap : List (Nat × Blk)) (nx : Nat) (e : Ex) (heap' : List (Nat × Blk)) (nx' : Nat) : YbF := fun ds2 heap2 nx2 ws => if ds2 = ds /\ heap2 = heap /\ nx2 = nx then some (e, heap', nx', ws) else none
theorem ya0i {P : Program} {Y : YC} {ds : List D} {heap : List (Nat × Blk)} {nx : Nat} {e : Ex} {heap' : List (Nat × Blk)} {nx' : Nat} (hn : nx <= nx') (hO : ∀ lim, nx' <= lim -> zv2 P lim Y ds heap nx e heap' nx') : zv1 P 0 Y (yb1 ds heap nx e heap' nx') := by
 intro ds2 heap2 nx2 ws e2 heap2' nx2' ws2 h
 unfold yb1 at h
 split at h
 rename_i hc
 obtain ⟨rfl, rfl, rfl⟩ := hc
 simp only [za3, za6] at h
 obtain ⟨rfl, rfl, rfl, rfl⟩ := h
 exact ⟨hn, fun id hid => absurd hid (Nat.not_lt_zero _), hO⟩
 cases h
theorem ya60 {ds : List D} {heap : List (Nat × Blk)} {nx : Nat} {e : Ex} {heap' : List (Nat × Blk)} {nx' : Nat} {ws : List Nat} : yb1 ds heap nx e heap' nx' ds heap nx ws = some (e, heap', nx', ws) := by
 unfold yb1
 rw [if_pos ⟨rfl, rfl, rfl⟩]
section
variable {P : Program} {tab : Nat -> TI} {lim n : Nat} {st : St} {Y : YC} {l : Nat} {p : Option Code} {Q : Exit -> St -> Option Code -> Prop}
theorem OkG.varsY {c : Code} (V : List Nat) (h : OkG P lim n none (YAt Y l) c ⟨keep V st.vars, st.heap, st.nx⟩ p Q) : OkG P lim n none (YAt Y l) c st p Q := by
 intro E F a w g hF hR hJ
 obtain ⟨F', hF', hR'⟩ := hR.sub hF (st' := ⟨keep V st.vars, st.heap, st.nx⟩) ⟨fun t d h => zs1 V _ t d h, fun _ _ h => h, za4 _⟩
 have e : F'.hp = F.hp := hF'.2.1.trans hF.2.1.symm
 refine h E F' a w g hF' hR' ?_
 obtain ⟨h1, h2, h3, rc, h4, h5⟩ := hJ
 exact ⟨h1, h2, h3, rc, h4, ⟨h5.st, h5.pe, h5.ps, h5.asg, h5.bd, h5.sz, by rw [e]; exact h5.rd⟩⟩
theorem OkG.plY {id : Nat} {ops : Array Oper} {st' : St} {vc : Bool} {acc : List FP} (S : Seat P tab) (hK : znf [Y.k] ops = true) (hok : zj0 n ops false = true)
  (h : zjf (runE tab true false ops.toList ops.toList st true []) st' vc acc []) (hv : vc = true) (hlim : st'.nx <= lim) (hQ : Q .normal st' p) : OkG P lim n none (YAt Y l) (.region id ops false) st p Q :=
 OkG.region0 (own := true) ya4s S.tm S.mixed hok hK (WRun.E h.eq (.inr fun _ _ _ h => ⟨nofun, h.2⟩) hv hlim (.nil ⟨nofun, hQ⟩)).2
end
end Go.Tm
namespace Go.Tm
open Go.RowKit Go.WideShapes
def shf (N : Nat) : List (Nat × D) -> List (Nat × D)
 | [] => []
 | (t, d) :: r => (N + t, d) :: shf N r
def cmb (N : Nat) (a b : List (Nat × D)) : List (Nat × D) := a ++ shf N b
theorem zyn (N t : Nat) : ∀ l : List (Nat × D), getL (shf N l) (N + t) = getL l t
 | [] => rfl
 | (u, d) :: r => by
  simp only [shf, getL, zyn N t r]
  have : Nat.beq (N + u) (N + t) = Nat.beq u t := by
   cases h : Nat.beq u t
   cases h2 : Nat.beq (N + u) (N + t)
   rfl
   have := nb h2
   rw [show u = t by omega, Nat.beq_refl] at h; cases h
   rw [nb h, Nat.beq_refl]
  rw [this]
theorem zrz (N t : Nat) (h : t < N) : ∀ l : List (Nat × D), getL (shf N l) t = none
 | [] => rfl
 | (u, d) :: r => by
  simp only [shf, getL, zrz N t h r]
  have : Nat.beq (N + u) t = false := by
   cases h2 : Nat.beq (N + u) t
   rfl
   have := nb h2; omega
  rw [this]; rfl
theorem zuj (t : Nat) (b : List (Nat × D)) : ∀ a : List (Nat × D), getL (a ++ b) t = match getL a t with | some d => some d | none => getL b t
 | [] => rfl
 | (u, d) :: r => by
  simp only [zal, getL, zuj t b r]
  cases Nat.beq u t <;> rfl
theorem zui (N t : Nat) (h : N <= t) : ∀ a : List (Nat × D), (∀ p ∈ a, p.1 < N) -> getL a t = none
 | [], _ => rfl
 | (u, d) :: r, hN => by
  simp only [getL, zui N t h r fun p hp => hN p (zaj _ hp)]
  have hu := hN (u, d) (List.mem_cons_self ..)
  have : Nat.beq u t = false := by
   cases h2 : Nat.beq u t
   rfl
   have := nb h2; simp only at hu; omega
  rw [this]; rfl
theorem zrw {N t : Nat} (h : t < N) (a b : List (Nat × D)) : getR (cmb N a b) t = getR a t := by
 unfold getR cmb
 rw [zuj, zrz N t h]
 cases getL a t <;> rfl
theorem zrx {N : Nat} (t : Nat) {a : List (Nat × D)} (hN : ∀ p ∈ a, p.1 < N) (b : List (Nat × D)) : getR (cmb N a b) (N + t) = getR b t := by
 unfold getR cmb
 rw [zuj, zui N (N + t) (by omega) a hN, zyn]
section
variable {P : Program} {tab : Nat -> TI} {lim n : Nat} {Y : YC} {l : Nat} {Q : Exit -> St -> Option Code -> Prop}
theorem YAt.goes {E : En} {F : FrS} {a : Act} {w : World} {g : Gh} {st s : St} {n0 N : Nat} {p : Option Code} (hN : ∀ p ∈ Y.vars, p.1 < N) (h : Goes lim n0 ⟨cmb N Y.vars st.vars, st.heap, st.nx⟩ ⟨cmb N Y.vars s.vars, s.heap, s.nx⟩)
  (hE : ∀ id, n0 <= id -> id < lim -> E.nu0 id = true) (hF : F.on lim st) (hR : Rel E n F (zg2 a) w g) (hJ : YAt Y l E p F a w g) : ∃ F' g', F'.on lim s /\ Rel E n F' (zg2 a) w g' /\ YAt Y l E p F' a w g' := by
 obtain ⟨h1, h2, h3, rc, h4, h5⟩ := hJ
 obtain ⟨tm, htm⟩ : ∃ tm : Array Value, tm = Array.ofFn (n := N + a.tmps.size) fun i => if i.1 < N then rc.tmps.getD i.1 undef else a.tmps.getD (i.1 - N) undef := ⟨_, rfl⟩
 have g1 : ∀ t, t < N -> tm.getD t undef = rc.tmps.getD t undef := fun t ht => by
  rw [htm, Array.getD_eq_getD_getElem?, Array.getElem?_ofFn]
  rw [dif_pos (by omega), if_pos ht]; rfl
 have g2 : ∀ t, tm.getD (N + t) undef = a.tmps.getD t undef := fun t => by
  rw [htm, Array.getD_eq_getD_getElem?, Array.getElem?_ofFn]
  by_cases ht : t < a.tmps.size
  rw [dif_pos (by omega)]
  simp only [Nat.not_lt.2 (Nat.le_add_right N t), if_false, Nat.add_sub_cancel_left, Option.getD_some]
  rw [dif_neg (by omega), Array.getD_eq_getD_getElem?, Array.getElem?_eq_none (by omega)]
 have hR0 : Rel E 0 ⟨getR (cmb N Y.vars st.vars), F.hp, F.nu⟩ { tmps := tm, defers := [] } w g := by
  refine ⟨Nat.zero_le _, rfl, fun t => ?_, hR.mem, hR.base, hR.keep, hR.gz, hR.gs, hR.nu⟩
  show rep (cx w g F.hp) (getR (cmb N Y.vars st.vars) t) (tm.getD t undef)
  by_cases ht : t < N
  rw [zrw ht, g1 t ht]; exact h5.rd t
  obtain ⟨u, rfl⟩ : ∃ u, t = N + u := ⟨t - N, by omega⟩
  rw [zrx u hN, g2 u, <- hF.1]; exact hR.rd u
 obtain ⟨F', g', k1, k2⟩ := h E 0 ⟨getR (cmb N Y.vars st.vars), F.hp, F.nu⟩ { tmps := tm, defers := [] } w g hE ⟨rfl, hF.2.1, hF.2.2⟩ hR0
 have rd := fun t => k1.1 ▸ k2.rd t
 refine ⟨⟨getR s.vars, F'.hp, F'.nu⟩, g', ⟨rfl, k1.2.1, k1.2.2⟩, ⟨hR.sz, hR.df, fun t => ?_, k2.mem, k2.base, k2.keep, k2.gz, k2.gs, k2.nu⟩, h1, h2, h3, rc, h4, ⟨h5.st, h5.pe, h5.ps, h5.asg, h5.bd, h5.sz, fun t => ?_⟩⟩
 have k := rd (N + t)
 have k : rep (cx w g' F'.hp) (getR (cmb N Y.vars s.vars) (N + t)) (tm.getD (N + t) undef) := k
 rw [zrx t hN, g2 t] at k
 exact k
 by_cases ht : t < N
 have k := rd t
 have k : rep (cx w g' F'.hp) (getR (cmb N Y.vars s.vars) t) (tm.getD t undef) := k
 rw [zrw ht, g1 t ht] at k
 exact k
 have : getR Y.vars t = .undef := by
  unfold getR; rw [zui N t (by omega) _ hN]
 show rep _ (getR Y.vars t) _
 rw [this]; simp only [rep]
def YAtE (Y : YC) (l lim n0 : Nat) (E : En) (p : Option Code) (F : FrS) (a : Act) (w : World) (g : Gh) : Prop := (∀ id, n0 <= id -> id < lim -> E.nu0 id = true) /\ YAt Y l E p F a w g
theorem OkG.toE {c : Code} {st : St} {p : Option Code} (n0 : Nat) (h : OkG P lim n none (YAt Y l) c st p Q) : OkG P lim n none (YAtE Y l lim n0) c st p Q :=
 fun E F a w g hF hR hJ => wpIn_mono (h E F a w g hF hR hJ.2) fun _ _ _ ⟨st', s', F', g', q, k1, k2, k3⟩ => ⟨st', s', F', g', q, k1, k2, hJ.1, k3⟩
theorem OkG.ofE {c : Code} {st : St} {p : Option Code} {n0 : Nat} (hn : st.nx <= n0) (h : OkG P lim n none (YAtE Y l lim n0) c st p Q) : OkG P lim n none (YAt Y l) c st p Q :=
 fun E F a w g hF hR hJ => wpIn_mono (h E F a w g hF hR ⟨fun id k1 k2 => hR.nu id (hF.2.2 id (zar hn k1) k2), hJ⟩) fun _ _ _ ⟨st', s', F', g', q, k1, k2, k3⟩ => ⟨st', s', F', g', q, k1, k2, k3.2⟩
def ya8d (Y : YC) (lim n0 N : Nat) (st s : St) : Prop := Goes lim n0 ⟨cmb N Y.vars st.vars, st.heap, st.nx⟩ ⟨cmb N Y.vars s.vars, s.heap, s.nx⟩
def ya7v {ι : Type} (Y : YC) (lim n0 N : Nat) (S : ι -> St) (Pr : ι -> Prop) (μ : ι -> Nat) (i : ι) (Q : Exit -> St -> Option Code -> Prop) : Exit -> St -> Option Code -> Prop := fun e s q => match e with | .normal => q = none /\ ∃ j, ya8d Y lim n0 N s (S j) /\ Pr j /\ μ j < μ i | e => Q e s q
theorem OkG.loopYG {c : Code} {st : St} {ι : Type} (n0 N : Nat) (S : ι -> St) (Pr : ι -> Prop) (μ : ι -> Nat) (i0 : ι) (hn : st.nx <= n0) (hN : ∀ p ∈ Y.vars, p.1 < N) (hs : ya8d Y lim n0 N st (S i0)) (h0 : Pr i0)
  (round : ∀ i, Pr i -> OkG P lim n none (YAt Y l) c (S i) none (ya7v Y lim n0 N S Pr μ i Q)) : OkG P lim n none (YAt Y l) (.loop c) st none Q := by
 have key : ∀ m i, μ i = m -> Pr i -> OkGL P lim n none (YAtE Y l lim n0) c (S i) none Q := by
  intro m
  induction m using Nat.strongRecOn with
  | _ m ih =>
   intro i hm hI
   refine OkGL.round (OkG.mono (OkG.toE n0 (round i hI)) fun e s q hq => ?_)
   cases e with
   | normal =>
    obtain ⟨rfl, j, h1, h2, h3⟩ := hq
    have k := ih (μ j) (hm ▸ h3) j rfl h2
    intro E F a w g hF hR hJ
    obtain ⟨F', g', hF', hR', hJ'⟩ := YAt.goes hN h1 hJ.1 hF hR hJ.2
    exact k E F' a w g' hF' hR' ⟨hJ.1, hJ'⟩
   | _ => exact hq
 refine OkG.ofE hn ?_
 intro E F a w g hF hR hJ
 obtain ⟨F', g', hF', hR', hJ'⟩ := YAt.goes hN hs hJ.1 hF hR hJ.2
 exact OkGL.to (key _ i0 rfl h0) E F' a w g' hF' hR' ⟨hJ.1, hJ'⟩
end
section
variable {P : Program} {tab : Nat -> TI} {lim n : Nat} {r : Option Nat} {B : List (Nat × Obj)} {st : St} {Q : Exit -> St -> Prop}
def JE {S : Type} (J : En -> S -> FrS -> Act -> World -> Gh -> Prop) (lim n0 : Nat) (E : En) (s : S) (F : FrS) (a : Act) (w : World) (g : Gh) : Prop := (∀ id, n0 <= id -> id < lim -> E.nu0 id = true) /\ J E s F a w g
theorem OkG.toJ {S : Type} {J : En -> S -> FrS -> Act -> World -> Gh -> Prop} {c : Code} {s : S} {Q : Exit -> St -> S -> Prop} (n0 : Nat) (h : OkG P lim n r J c st s Q) : OkG P lim n r (JE J lim n0) c st s Q :=
 fun E F a w g hF hR hJ => wpIn_mono (h E F a w g hF hR hJ.2) fun _ _ _ ⟨st', s', F', g', q, k1, k2, k3⟩ => ⟨st', s', F', g', q, k1, k2, hJ.1, k3⟩
theorem OkG.ofJ {S : Type} {J : En -> S -> FrS -> Act -> World -> Gh -> Prop} {c : Code} {s : S} {Q : Exit -> St -> S -> Prop} {n0 : Nat} (hn : st.nx <= n0) (h : OkG P lim n r (JE J lim n0) c st s Q) : OkG P lim n r J c st s Q :=
 fun E F a w g hF hR hJ => wpIn_mono (h E F a w g hF hR ⟨fun id k1 k2 => hR.nu id (hF.2.2 id (zar hn k1) k2), hJ⟩) fun _ _ _ ⟨st', s', F', g', q, k1, k2, k3⟩ => ⟨st', s', F', g', q, k1, k2, k3.2⟩
def ya7w {ι : Type} (lim n0 : Nat) (S : ι -> St) (Pr : ι -> Prop) (μ : ι -> Nat) (i : ι) (Q : Exit -> St -> Prop) : Exit -> St -> Prop := fun e st' => match e with | .normal => ∃ j, Goes lim n0 st' (S j) /\ Pr j /\ μ j < μ i | e => Q e st'
theorem OkB.loopN {c : Code} {ι : Type} (n0 : Nat) (S : ι -> St) (Pr : ι -> Prop) (μ : ι -> Nat) (i0 : ι) (hn : st.nx <= n0) (hs : Goes lim n0 st (S i0)) (h0 : Pr i0) (round : ∀ i, Pr i -> OkB P lim n r B c (S i) (ya7w lim n0 S Pr μ i Q)) : OkB P lim n r B (.loop c) st Q := by
 have go : ∀ {E : En} {F : FrS} {a : Act} {w : World} {g : Gh} {st s : St}, Goes lim n0 st s -> (∀ id, n0 <= id -> id < lim -> E.nu0 id = true) -> F.on lim st -> Rel E n F (zg2 a) w g -> ∃ F' g', F'.on lim s /\ Rel E n F' (zg2 a) w g' := fun h hE hF hR => h _ _ _ _ _ _ hE hF hR
 have key : ∀ m i, μ i = m -> Pr i -> OkGL P lim n r (JE (JM B) lim n0) c (S i) () fun e s _ => Q e s := by
  intro m
  induction m using Nat.strongRecOn with
  | _ m ih =>
   intro i hm hI
   refine OkGL.round (OkG.mono (OkG.toJ n0 (round i hI)) fun e s _ hq => ?_)
   cases e with
   | normal =>
    obtain ⟨j, h1, h2, h3⟩ := hq
    have k := ih (μ j) (hm ▸ h3) j rfl h2
    intro E F a w g hF hR hJ
    obtain ⟨F', g', hF', hR'⟩ := go h1 hJ.1 hF hR
    exact k E F' a w g' hF' hR' hJ
   | _ => exact hq
 refine OkG.ofJ hn ?_
 intro E F a w g hF hR hJ
 obtain ⟨F', g', hF', hR'⟩ := go hs hJ.1 hF hR
 exact OkGL.to (key _ i0 rfl h0) E F' a w g' hF' hR' hJ
end
theorem nc0 : znx [] := by intro x hx; cases hx
section
variable {P : Program} {tab : Nat -> TI} {lim n : Nat} {st : St} {Y : YC} {l : Nat} {p : Option Code} {Q : Exit -> St -> Option Code -> Prop}
theorem OkG.pY {id : Nat} {ops : Array Oper} {st' : St} {vc : Bool} {acc : List FP} (S : Seat P tab) (hQ : Q .normal st' p) (hK : znf [Y.k] ops = true := by decide +kernel) (hok : zj0 n ops false = true := by decide +kernel)
  (h : zjf (runE tab true false ops.toList ops.toList st true []) st' vc acc [] := by intro q hq; simp only [go_sem, Nat.reduceSub, Int.reduceEq, Nat.reduceLT, Nat.reduceDiv, Nat.reduceAdd, Nat.reduceBEq, Nat.reduceLeDiff, reduceCtorEq, Nat.reduceEqDiff, Nat.reduceMod, Nat.reduceMul, zbv]; exact hq)
  (hv : vc = true := by first | rfl | (simp only [go_sem, Nat.reduceLeDiff]; done) | (simp only [go_sem, Nat.reduceLeDiff]; rfl) | (simp; done)) (hlim : st'.nx <= lim := by first | exact za4 _ | exact lb rfl) : OkG P lim n none (YAt Y l) (.region id ops false) st p Q :=
 OkG.plY S hK hok h hv hlim hQ
theorem OkG.pYx {X : Prop} {id : Nat} {ops : Array Oper} {st' : St} {vc : Bool} {acc : List FP} (S : Seat P tab) (x : X) (hQ : Q .normal st' p) (hK : znf [Y.k] ops = true := by decide +kernel) (hok : zj0 n ops false = true := by decide +kernel)
  (h : X -> zjf (runE tab true false ops.toList ops.toList st true []) st' vc acc [] := by intro x q hq; simp only [go_sem, Nat.reduceSub, Int.reduceEq, Nat.reduceLT, Nat.reduceDiv, Nat.reduceAdd, Nat.reduceBEq, Nat.reduceLeDiff, reduceCtorEq, Nat.reduceEqDiff, Nat.reduceMod, Nat.reduceMul, zbv, x]; exact hq)
  (hv : vc = true := by first | rfl | (simp only [go_sem, Nat.reduceLeDiff]; done) | (simp only [go_sem, Nat.reduceLeDiff]; rfl) | (simp; done)) (hlim : st'.nx <= lim := by first | exact za4 _ | exact lb rfl) : OkG P lim n none (YAt Y l) (.region id ops false) st p Q :=
 OkG.plY S hK hok (h x) hv hlim hQ
end
def zya (ks ys : List Nat) (o : Oper) : Bool := o.guard.isNone && (zrt ks o).isNone && !zmz ks o && !zj1 o && decide (zrp ys o.dst = ys)
theorem ya26 (call : FuncId -> List D -> List (Nat × Blk) -> Nat -> Option Out) (tab : Nat -> TI) (o : Oper) (st : St) (h : zj1 o = false) : ya02 call tab o st = aopX tab o st := by
 unfold ya02
 cases ho : o.op with
 | call c =>
  cases hc : c.callee with
  | value f => simp [zj1, ho, hc] at h
  | _ => simp only [hc]
 | _ => rfl
theorem ya5w (tab : Nat -> TI) (o : Oper) (st : St) : aopX tab o st = match aop tab true o.op st.nx true (getR st.vars) (getL st.heap) with
 | some out => bif out.vc && nwB st.nx out.nw then some out else none
 | none => none := by
 unfold aopX; rw [ya2l]
 cases aop tab true o.op st.nx true (getR st.vars) (getL st.heap) <;> rfl
theorem ya0x {yb : YbF} {tab : Nat -> TI} {k : Nat} {O : List Oper} {ys : List Nat} {p : Option Code} : ∀ (m : Nat) (l l' : List Oper) (st st' : St) (v0 vc : Bool) (acc acc' : List FP) (ws : List Nat), runK tab true false O m l st v0 acc = some (st', vc, acc', l') -> vc = true -> (l.take m).all (zya (k :: ys) ys) = true ->
  v0 = true /\ ∃ ws', runY yb noCall tab 0 k O l ys st ws p = runY yb noCall tab 0 k O l' ys st' ws' p
 | 0, l, l', st, st', v0, vc, acc, acc', ws, h, hv, _ => by
  simp only [runK, za3, za6] at h
  obtain ⟨rfl, rfl, rfl, rfl⟩ := h
  exact ⟨hv, ws, rfl⟩
 | m + 1, [], l', st, st', v0, vc, acc, acc', ws, h, hv, _ => by
  simp only [runK, za3, za6] at h
  obtain ⟨rfl, rfl, rfl, rfl⟩ := h
  exact ⟨hv, ws, rfl⟩
 | m + 1, o :: l, l', st, st', v0, vc, acc, acc', ws, h, hv, ha => by
  simp only [List.take_succ_cons, List.all_cons, za0] at ha
  obtain ⟨ha1, ha2⟩ := ha
  simp only [zya, za0, Bool.not_eq_true', decide_eq_true_eq, Option.isNone_iff_eq_none] at ha1
  obtain ⟨⟨⟨⟨g1, g2⟩, g3⟩, g4⟩, g5⟩ := ha1
  simp only [runK, g4, cond_false] at h
  split at h
  ·rename_i out v hs
   obtain ⟨hvv, ws', hq⟩ := ya0x m _ _ _ _ _ _ _ _ (addW 0 ws out.eff) h hv ha2
   simp only [za0] at hvv
   refine ⟨hvv.1, ws', ?_⟩
   rw [<- hq]
   have hst : zzh noCall tab O o st = some out := by
    unfold zzh
    rw [g1]
    simp only
    rw [ya26 _ _ _ _ g4, ya5w]
    unfold zt2 at hs
    rw [g1] at hs
    simp only at hs
    cases hA : aop tab true o.op st.nx true (getR st.vars) (getL st.heap) with
    | none => rw [hA] at hs; cases hs
    | some out2 =>
     rw [hA] at hs
     simp only [za3, za6] at hs
     obtain ⟨rfl, hv2⟩ := hs
     have h3 : (out2.vc && nwB st.nx out2.nw) = true := hv2.trans hvv.2
     simp only [h3, cond_true]
   conv => lhs; unfold runY
   rw [g2]
   simp only [g3, cond_false, hst, g5]
  cases h
section
variable {P : Program} {tab : Nat -> TI} {lim n : Nat} {st : St} {Y : YC} {l : Nat} {Q : Exit -> St -> Option Code -> Prop}
theorem OkG.ryB {X : Prop} {id : Nat} {ops : Array Oper} {o0 oy : Oper} {l0 l1 : List Oper} {d0 : Nat} {ds : List D} {heap' : List (Nat × Blk)} {nx' : Nat} {e : Ex} {st1 st2 : St} {vc1 vc2 : Bool} {acc1 acc2 : List FP} (S : Seat P tab) (x : X) (m1 m2 : Nat)
  (hO : ∀ lim, nx' <= lim -> zv2 P lim Y ds st1.heap st1.nx e heap' nx') (hQ : Q .normal st2 e.pend) (hok : zj0 n ops false = true := by decide +kernel) (hK : znf [Y.k] ops = true := by decide +kernel)
  (h0 : ops.toList = o0 :: l0 := by rfl) (hm : zrt [Y.k] o0 = some d0 := by rfl)
  (h1 : X -> zjf (runK tab true false ops.toList m1 l0 (st.putD (some d0) .undef) true []) st1 vc1 acc1 (oy :: l1) := by intro x q hq; simp only [go_sem, Nat.reduceSub, Int.reduceEq, Nat.reduceLT, Nat.reduceDiv, Nat.reduceAdd, Nat.reduceBEq, Nat.reduceLeDiff, reduceCtorEq, Nat.reduceEqDiff, Nat.reduceMod, Nat.reduceMul, zbv, St.putD, Ex.isN, x]; exact hq) (hv1 : vc1 = true := by first | rfl | (simp only [go_sem, Nat.reduceLeDiff]; done) | (simp only [go_sem, Nat.reduceLeDiff]; rfl) | (simp; done) | (simp_all; done) | (simp <;> omega))
  (hn : st1.nx <= nx' := by exact lb rfl)
  (hp1 : (l0.take m1).all (zya [Y.k, d0] [d0]) = true := by decide +kernel) (hy : zmz [Y.k, d0] oy = true := by rfl) (hym : zrt [Y.k, d0] oy = none := by rfl) (hg : oy.guard = none := by rfl)
  (ho : X -> opds true (getR st1.vars) (zz8 oy) = (ds, true) := by intro x; first | rfl | (simp only [zz8, go_sem, Nat.reduceBEq, x]; done) | (simp only [zz8, go_sem, Nat.reduceBEq, x]; rfl))
  (h2 : X -> zjf (runK tab true false ops.toList m2 l1 ((⟨st1.vars, heap', nx'⟩ : St).putD oy.dst (.bool e.isN)) true []) st2 vc2 acc2 [] := by intro x q hq; simp only [go_sem, Nat.reduceSub, Int.reduceEq, Nat.reduceLT, Nat.reduceDiv, Nat.reduceAdd, Nat.reduceBEq, Nat.reduceLeDiff, reduceCtorEq, Nat.reduceEqDiff, Nat.reduceMod, Nat.reduceMul, zbv, St.putD, Ex.isN, x]; exact hq) (hv2 : vc2 = true := by first | rfl | (simp only [go_sem, Nat.reduceLeDiff]; done) | (simp only [go_sem, Nat.reduceLeDiff]; rfl) | (simp; done) | (simp_all; done) | (simp <;> omega))
  (hp2 : (l1.take m2).all (zya (Y.k :: zrp [d0] oy.dst) (zrp [d0] oy.dst)) = true := by decide +kernel) (hlim : st2.nx <= lim := by exact lb rfl) : OkG P lim n none (YAt Y l) (.region id ops false) st none Q := by
 obtain ⟨_, ws1, e1⟩ := ya0x (yb := yb1 ds st1.heap st1.nx e heap' nx') (tab := tab) (k := Y.k) (O := ops.toList) (ys := [d0]) (p := none) m1 l0 _ _ _ _ _ _ _ [] (h1 x).eq hv1 hp1
 obtain ⟨_, ws2, e2⟩ := ya0x (yb := yb1 ds st1.heap st1.nx e heap' nx') (tab := tab) (k := Y.k) (O := ops.toList) (ys := zrp [d0] oy.dst) (p := e.pend) m2 l1 _ _ _ _ _ _ _ ws1 (h2 x).eq hv2 hp2
 have key : runY (yb1 ds st1.heap st1.nx e heap' nx') noCall tab 0 Y.k ops.toList ops.toList [] st [] none = some (st2, ws2, e.pend) := by
  conv => lhs; arg 7; rw [h0]
  conv => lhs; unfold runY
  rw [hm]
  simp only
  rw [e1]
  conv => lhs; unfold runY
  rw [hym]
  simp only [hy, cond_true]
  unfold ya0h
  rw [hg]
  simp only
  unfold zsc
  rw [ho x]
  simp only
  rw [ya60]
  simp only
  rw [e2]
  rfl
 obtain ⟨_, _, h3⟩ := ya0y (pt := fun _ => []) zvk S.tm S.mixed (ya0i hn hO) l id ops false st [] none st2 ws2 e.pend (by simp only [rgoK, za0, Bool.not_false, Bool.true_or]; exact ⟨⟨hok, trivial⟩, hK⟩) key
 refine (h3 lim hlim).mono ?_
 rintro e t q ⟨rfl, rfl, rfl⟩
 exact hQ
end
theorem OkB.drop {P : Program} {lim n : Nat} {r : Option Nat} {B : List (Nat × Obj)} {c : Code} {st : St} {e0 : Exit} {H : List (Nat × Blk)} {N : Nat} (h : OkB P lim n r B c st fun e s => e = e0 /\ s.heap = H /\ s.nx = N) : OkG P lim n r (JM B) c st () fun e s _ => e = e0 /\ s = ⟨[], H, N⟩ :=
 fun E F a w g hF hR hJ => wpIn_mono (h E F a w g hF hR hJ) fun e a' w' ⟨st', s', F', g', q, k1, k2, k3⟩ => by
  obtain ⟨rfl, rfl, rfl⟩ := q
  obtain ⟨F2, hF2, hR2⟩ := k2.sub k1 (st' := ⟨zcw [] st'.vars, st'.heap, st'.nx⟩) ⟨fun t d h => zav [] _ t d h, fun _ _ h => h, za4 _⟩
  exact ⟨_, s', F2, g', ⟨rfl, rfl⟩, hF2, hR2, k3⟩
end Go.Tm

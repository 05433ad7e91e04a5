/- Texts of the proof. -/
import Derived.KernelRfl
import Derived.Test.YtafdfmkjjhimaaaGreatDoorGroupPutsCardPe
namespace Go.Tm
open Go.RowKit Go.WideShapes
theorem zdk {α : Type} (f : α -> D) (l : List α) (i : Nat) (h : i < l.length) : nth (l.map f) i = f l[i] := by
 unfold nth; simp [h]
theorem zxl (a b : Nat) : Nat.blt a b = decide (a < b) := by
 show Nat.ble (a + 1) b = _
 rw [Bool.eq_iff_iff]; simp [Nat.ble_eq]; omega
theorem zxm (a b : Nat) : Nat.ble a b = decide (a <= b) := by
 rw [Bool.eq_iff_iff]; simp [Nat.ble_eq]
theorem zuc (d : D) : mkZ 0 d = d := rfl
theorem zri (l : List D) : mkZL 0 l = l := rfl
def zjf (r : Option (St × Bool × List FP × List Oper)) (st' : St) (vc : Bool) (acc : List FP) (l : List Oper) : Prop :=
 ∀ q : St -> Bool -> List FP -> List Oper -> Prop, q st' vc acc l -> match r with | some (s, v, f, l) => q s v f l | none => False
theorem zjf.eq {r : Option (St × Bool × List FP × List Oper)} {st' : St} {vc : Bool} {acc : List FP} {l : List Oper} (h : zjf r st' vc acc l) : r = some (st', vc, acc, l) := by
 have := h (fun s v f k => (s, v, f, k) = (st', vc, acc, l)) rfl
 cases r with
 | none => exact this.elim
 | some x => exact congrArg some this
section
variable {P : Program} {tab : Nat -> TI} {lim n : Nat}
theorem Ok.plain {id : Nat} {ops : Array Oper} {st st' : St} {vc : Bool} {acc : List FP} {Q : Exit -> St -> Prop} (hT : zgy P tab) (hm : P.follows .mixedOrders = true) (V : List Nat) (hok : zj0 n ops false = true)
  (h : zjf (runE tab true false ops.toList ops.toList ⟨keep V st.vars, st.heap, st.nx⟩ true []) st' vc acc []) (hv : vc = true) (hlim : st'.nx <= lim) (hQ : Q .normal st') : Ok P lim n (.region id ops false) st Q :=
 Ok.region (own := true) hT hm V hok (WRun.E h.eq (.inr fun _ _ _ h => ⟨nofun, h.2⟩) hv hlim (.nil ⟨nofun, hQ⟩)).2
theorem Ok.drawn {id : Nat} {ops : Array Oper} {st st' : St} {vc : Bool} {acc : List FP} {Q : Exit -> St -> Prop} (hT : zgy P tab) (hm : P.follows .mixedOrders = true) (V : List Nat) (hok : zj0 n ops true = true)
  (h : zjf (runE tab true true ops.toList ops.toList ⟨keep V st.vars, st.heap, st.nx⟩ true []) st' vc acc []) (hs : zk6 ops (fun i => (acc[i]?).getD zkc) = true) (hv : vc = true) (hlim : st'.nx <= lim) (hQ : Q .normal st') : Ok P lim n (.region id ops true) st Q :=
 Ok.region (own := true) hT hm V hok (WRun.E h.eq (.inl rfl) hv hlim (.nil ⟨fun _ => hs, hQ⟩)).2
theorem Ok.reg {id : Nat} {ops : Array Oper} {draw : Bool} {st : St} {Q : Exit -> St -> Prop} (hT : zgy P tab) (hm : P.follows .mixedOrders = true) (V : List Nat) (hok : zj0 n ops draw = true) (h : RegA P tab true lim ops draw ⟨keep V st.vars, st.heap, st.nx⟩ (Q .normal)) : Ok P lim n (.region id ops draw) st Q := Ok.region hT hm V hok h
theorem WRun.R {ops : Array Oper} {dr : Bool} {l l' : List Oper} {st st' : St} {acc acc' : List FP} {Q : St -> List FP -> Prop} {vc : Bool}
  (hdr : dr = true \/ ∀ st a b, Q st a -> Q st b) (h : zjf (runE tab true dr ops.toList l st true acc) st' vc acc' l') (hv : vc = true) (hlim : st'.nx <= lim) (hQ : WRun P tab true lim ops l' st' acc' Q) : WRun P tab true lim ops l st acc Q :=
 (WRun.E h.eq hdr hv hlim hQ).2
theorem ztg {st : St} : ∀ id, ((0 : Nat), (0 : Nat)).1 <= id -> id < ((0 : Nat), (0 : Nat)).2 -> st.nx <= id := fun _ _ h => absurd h (Nat.not_lt_zero _)
def runK (tab : Nat -> TI) (own dr : Bool) (ops : List Oper) : Nat -> List Oper -> St -> Bool -> List FP -> Option (St × Bool × List FP × List Oper)
 | 0, l, st, vc, fps => some (st, vc, fps, l)
 | _ + 1, [], st, vc, fps => some (st, vc, fps, [])
 | n + 1, o :: l, st, vc, fps =>
  bif zj1 o then some (st, vc, fps, o :: l) else
  match zt2 tab own ops o st with
  | some (out, v) => runK tab own dr ops n l (st.app o.dst out) (vc && v) (bif dr then fps ++ [fpOf o ⟨getR st.vars, getL st.heap, fun _ => true⟩ out] else fps)
  | none => none
theorem WRun.EN {ops : Array Oper} {dr : Bool} (k : Nat) {l l' : List Oper} {st st' : St} {acc acc' : List FP} {Q : St -> List FP -> Prop} {vc : Bool}
  (h : runK tab true dr ops.toList k l st true acc = some (st', vc, acc', l')) (hdr : dr = true \/ ∀ st a b, Q st a -> Q st b) (hv : vc = true) (hlim : st'.nx <= lim) (hQ : WRun P tab true lim ops l' st' acc' Q) : WRun P tab true lim ops l st acc Q := by
 have key : ∀ (k : Nat) (l : List Oper) (st : St) (v0 : Bool) (acc : List FP), runK tab true dr ops.toList k l st v0 acc = some (st', vc, acc', l') -> v0 = true /\ st.nx <= st'.nx /\ WRun P tab true lim ops l st acc Q := by
  intro k
  induction k with
  | zero =>
   intro l st v0 acc h
   simp only [runK, za3, za6] at h
   obtain ⟨rfl, rfl, rfl, rfl⟩ := h
   exact ⟨hv, za4 _, hQ⟩
  | succ k ih =>
   intro l st v0 acc h
   cases l with
   | nil =>
    simp only [runK, za3, za6] at h
    obtain ⟨rfl, rfl, rfl, rfl⟩ := h
    exact ⟨hv, za4 _, hQ⟩
   | cons o l =>
    simp only [runK] at h
    cases hc : zj1 o with
    | true =>
     rw [hc] at h
     simp only [cond_true, za3, za6] at h
     obtain ⟨rfl, rfl, rfl, rfl⟩ := h
     exact ⟨hv, za4 _, hQ⟩
    | false =>
     rw [hc] at h
     simp only [cond_false] at h
     split at h
     rename_i out v hs
     obtain ⟨hvv, hnx, os, st2, hch, hq⟩ := ih _ _ _ _ h
     simp only [za0] at hvv
     obtain ⟨f1, f2⟩ := zqz (P := P) (lim := lim) hc hs hvv.2 (zar hnx hlim)
     refine ⟨hvv.1, zar (ya2i (ztx hs hvv.2)) hnx, (out, fpOf o (st.fs lim) out) :: os, st2, .cons f1 f2 hch, ?_⟩
     rcases hdr with hd | hd
     subst hd
     simp only [cond_true, zum o st lim] at hq
     simpa using hq
     exact hd _ _ _ hq
     cases h
 exact (key k l st true acc h).2.2
theorem WRun.call {ops : Array Oper} {o : Oper} {l : List Oper} {st : St} {acc : List FP} {Q : St -> List FP -> Prop} {c : Call} {f : Operand} {K : FuncId} {caps ds args : List D} {r : D}
  (ho : o.op = .call c) (hc : c.callee = .value f) (hg : o.guard = none) (hf : opd true (getR st.vars) f = (.fn (.func K) caps, true)) (hds : opds true (getR st.vars) c.args.toList = (ds, true)) (hl : zdm (getL st.heap) (ds ++ caps) = (args, true))
  (hK : zb9 P K args r) (hQ : WRun P tab true lim ops l (st.app o.dst { d := r, vc := true }) (acc ++ [fpOf o (st.fs lim) { d := r, vc := true }]) Q) : WRun P tab true lim ops (o :: l) st acc Q := by
 obtain ⟨os, st', hch, hq⟩ := hQ
 refine ⟨_, st', .cons (out := { d := r, vc := true }) ?_ ztg hch, by simpa using hq⟩
 unfold zk5
 simp only [hg]
 unfold Core
 simp only [ho, hc]
 have hl' : zdm (st.fs lim).hp (ds ++ caps) = (args, true) := hl
 exact .inl ⟨K, caps, true, ds, true, r, hf, rfl, hds, rfl, .inl ⟨by rw [hl'], by rw [hl']; exact hK, rfl⟩⟩
theorem WRun.gcall {ops : Array Oper} {o : Oper} {l : List Oper} {st : St} {acc : List FP} {Q : St -> List FP -> Prop} {c : Call} {f : Operand} {K : FuncId} {r : D} {j t : Nat} {want g : Bool}
  (ho : o.op = .call c) (hc : c.callee = .value f) (hg : o.guard = some (j, want)) (hj : zq6 ops.toList j = some t) (hgv : gval want (getR st.vars t) = some g)
  (h : g = true -> ∃ caps ds args, opd true (getR st.vars) f = (.fn (.func K) caps, true) /\ opds true (getR st.vars) c.args.toList = (ds, true) /\ zdm (getL st.heap) (ds ++ caps) = (args, true) /\ zb9 P K args r)
  (hQ : WRun P tab true lim ops l (st.app o.dst { d := .when g r, vc := true }) (acc ++ [fpOf o (st.fs lim) { d := .when g r, vc := true }]) Q) : WRun P tab true lim ops (o :: l) st acc Q := by
 obtain ⟨os, st', hch, hq⟩ := hQ
 refine ⟨_, st', .cons (out := { d := .when g r, vc := true }) ?_ ztg hch, by simpa using hq⟩
 unfold zk5
 simp only [hg]
 refine ⟨t, g, { d := r, vc := true }, ?_, hgv, fun hgt => ?_, ?_⟩
 rw [zlk] at hj
 simpa [zmg] using hj
 obtain ⟨caps, ds, args, h1, h3, h5, h7⟩ := h hgt
 unfold Core
 simp only [ho, hc]
 have hl' : zdm (st.fs lim).hp (ds ++ caps) = (args, true) := h5
 exact .inl ⟨K, caps, true, ds, true, r, h1, rfl, h3, rfl, .inl ⟨by rw [hl'], by rw [hl']; exact h7, rfl⟩⟩
 cases g <;> rfl
theorem WRun.hcall {ops : Array Oper} {o : Oper} {l : List Oper} {st : St} {acc : List FP} {Q : St -> List FP -> Prop} {c : Call} {f : Operand} {K : FuncId} {caps ds : List D} {H : List (Nat × Blk)} {r : D} {eff : List (Nat × Option Blk)} {nw : Nat × Nat}
  (ho : o.op = .call c) (hc : c.callee = .value f) (hg : o.guard = none) (hf : opd true (getR st.vars) f = (.fn (.func K) caps, true)) (hds : opds true (getR st.vars) c.args.toList = (ds, true))
  (hK : zby P K (ds ++ caps) H r eff nw) (hH : ∀ id b, getL H id = some b -> getL st.heap id = some b) (hE : ∀ x ∈ eff, x.1 ∈ H.map (·.1) \/ nw.1 <= x.1 /\ x.1 < nw.2) (hn : nw.1 = nw.2 \/ st.nx <= nw.1 /\ nw.2 <= lim)
  (hQ : WRun P tab true lim ops l (st.app o.dst { d := r, vc := true, eff := eff, nw := nw, met := H.map (·.1) }) (acc ++ [fpOf o (st.fs lim) { d := r, vc := true, eff := eff, nw := nw, met := H.map (·.1) }]) Q) : WRun P tab true lim ops (o :: l) st acc Q := by
 obtain ⟨os, st', hch, hq⟩ := hQ
 have hnn : ∀ id, nw.1 <= id -> id < nw.2 -> st.nx <= id /\ id < lim := by
  intro id h1 h2
  rcases hn with h | ⟨h3, h4⟩ <;> omega
 refine ⟨_, st', .cons (out := { d := r, vc := true, eff := eff, nw := nw, met := H.map (·.1) }) ?_ (fun id h1 h2 => (hnn id h1 h2).1) hch, by simpa using hq⟩
 unfold zk5
 simp only [hg]
 unfold Core
 simp only [ho, hc]
 refine .inl ⟨K, caps, true, ds, true, r, hf, rfl, hds, rfl, .inr (.inl ⟨H, eff, nw, hK, hH, fun id h1 h2 => ?_, hE, rfl⟩)⟩
 have := hnn id h1 h2
 simp only [St.fs, za0, decide_eq_true_eq]
 exact this
theorem WRun.overs {ops : Array Oper} {o : Oper} {l : List Oper} {st : St} {acc : List FP} {Q : St -> List FP -> Prop} {c : Call} {f : Operand} {K : FuncId} {caps ds : List D} {i j : Nat}
  (ho : o.op = .call c) (hc : c.callee = .value f) (hg : o.guard = none) (hf : opd true (getR st.vars) f = (.fn (.func K) caps, true)) (hds : opds true (getR st.vars) c.args.toList = (ds, true))
  (hK : ya41 P K) (hA : ya4l (getL st.heap) (ds ++ caps) i j)
  (hQ : WRun P tab true lim ops l (st.app o.dst { d := .bool false, vc := true, met := [i, j] }) (acc ++ [fpOf o (st.fs lim) { d := .bool false, vc := true, met := [i, j] }]) Q) : WRun P tab true lim ops (o :: l) st acc Q := by
 obtain ⟨os, st', hch, hq⟩ := hQ
 refine ⟨_, st', .cons (out := { d := .bool false, vc := true, met := [i, j] }) ?_ ztg hch, by simpa using hq⟩
 unfold zk5
 simp only [hg]
 unfold Core
 simp only [ho, hc]
 exact .inl ⟨K, caps, true, ds, true, .undef, hf, rfl, hds, rfl, .inr (.inr (.inl ⟨i, j, hK, hA, rfl⟩))⟩
theorem WRun.lcall {ops : Array Oper} {o : Oper} {l : List Oper} {st : St} {acc : List FP} {Q : St -> List FP -> Prop} {c : Call} {f : Operand} {K : FuncId} {caps ds args : List D} {r : D} (met : List Nat)
  (ho : o.op = .call c) (hc : c.callee = .value f) (hg : o.guard = none) (hf : opd true (getR st.vars) f = (.fn (.func K) caps, true)) (hds : opds true (getR st.vars) c.args.toList = (ds, true)) (hl : zdb (getL st.heap) (ds ++ caps) = (args, true)) (hm : zfx (getL st.heap) (ds ++ caps) = met)
  (hK : zb9 P K args r) (hQ : WRun P tab true lim ops l (st.app o.dst { d := r, vc := true, met := met }) (acc ++ [fpOf o (st.fs lim) { d := r, vc := true, met := met }]) Q) : WRun P tab true lim ops (o :: l) st acc Q := by
 obtain ⟨os, st', hch, hq⟩ := hQ
 refine ⟨_, st', .cons (out := { d := r, vc := true, met := met }) ?_ ztg hch, by simpa using hq⟩
 unfold zk5
 simp only [hg]
 unfold Core
 simp only [ho, hc]
 have hl' : zdb (st.fs lim).hp (ds ++ caps) = (args, true) := hl
 have hm' : zfx (st.fs lim).hp (ds ++ caps) = met := hm
 exact .inl ⟨K, caps, true, ds, true, r, hf, rfl, hds, rfl, .inr (.inr (.inr ⟨[], (0, 0), by rw [hl'], .inl ⟨by rw [hl']; exact hK, rfl, rfl⟩, by rw [hm']⟩))⟩
theorem WRun.glcall {ops : Array Oper} {o : Oper} {l : List Oper} {st : St} {acc : List FP} {Q : St -> List FP -> Prop} {c : Call} {f : Operand} {K : FuncId} {r : D} {j t : Nat} {want g : Bool} (met : List Nat)
  (ho : o.op = .call c) (hc : c.callee = .value f) (hg : o.guard = some (j, want)) (hj : zq6 ops.toList j = some t) (hgv : gval want (getR st.vars t) = some g)
  (h : g = true -> ∃ caps ds args, opd true (getR st.vars) f = (.fn (.func K) caps, true) /\ opds true (getR st.vars) c.args.toList = (ds, true) /\ zdb (getL st.heap) (ds ++ caps) = (args, true) /\ zfx (getL st.heap) (ds ++ caps) = met /\ zb9 P K args r)
  (hQ : WRun P tab true lim ops l (st.app o.dst { d := .when g r, vc := true, met := met }) (acc ++ [fpOf o (st.fs lim) { d := .when g r, vc := true, met := met }]) Q) : WRun P tab true lim ops (o :: l) st acc Q := by
 obtain ⟨os, st', hch, hq⟩ := hQ
 refine ⟨_, st', .cons (out := { d := .when g r, vc := true, met := met }) ?_ ztg hch, by simpa using hq⟩
 unfold zk5
 simp only [hg]
 refine ⟨t, g, { d := r, vc := true, met := met }, ?_, hgv, fun hgt => ?_, ?_⟩
 rw [zlk] at hj
 simpa [zmg] using hj
 obtain ⟨caps, ds, args, h1, h3, h5, h6, h7⟩ := h hgt
 unfold Core
 simp only [ho, hc]
 have hl' : zdb (st.fs lim).hp (ds ++ caps) = (args, true) := h5
 have hm' : zfx (st.fs lim).hp (ds ++ caps) = met := h6
 exact .inl ⟨K, caps, true, ds, true, r, h1, rfl, h3, rfl, .inr (.inr (.inr ⟨[], (0, 0), by rw [hl'], .inl ⟨by rw [hl']; exact h7, rfl, rfl⟩, by rw [hm']⟩))⟩
 cases g <;> rfl
theorem WRun.ncall {ops : Array Oper} {o : Oper} {l : List Oper} {st : St} {acc : List FP} {Q : St -> List FP -> Prop} {c : Call} {f : Operand} {K : FuncId} {caps ds args : List D} {r : D} {eff : List (Nat × Option Blk)} {nw : Nat × Nat} (met : List Nat)
  (ho : o.op = .call c) (hc : c.callee = .value f) (hg : o.guard = none) (hf : opd true (getR st.vars) f = (.fn (.func K) caps, true)) (hds : opds true (getR st.vars) c.args.toList = (ds, true)) (hl : zdb (getL st.heap) (ds ++ caps) = (args, true)) (hm : zfx (getL st.heap) (ds ++ caps) = met)
  (hK : zby P K args [] r eff nw) (he : newE nw eff = true) (hi : ∀ i ∈ r.ids, nw.1 <= i /\ i < nw.2) (hk : okM new1 r = true) (hn : st.nx <= nw.1 /\ nw.2 <= lim)
  (hQ : WRun P tab true lim ops l (st.app o.dst { d := r, vc := true, eff := eff, nw := nw, met := met }) (acc ++ [fpOf o (st.fs lim) { d := r, vc := true, eff := eff, nw := nw, met := met }]) Q) : WRun P tab true lim ops (o :: l) st acc Q := by
 obtain ⟨os, st', hch, hq⟩ := hQ
 refine ⟨_, st', .cons (out := { d := r, vc := true, eff := eff, nw := nw, met := met }) ?_ (fun id h1 h2 => zar hn.1 h1) hch, by simpa using hq⟩
 unfold zk5
 simp only [hg]
 unfold Core
 simp only [ho, hc]
 have hl' : zdb (st.fs lim).hp (ds ++ caps) = (args, true) := hl
 have hm' : zfx (st.fs lim).hp (ds ++ caps) = met := hm
 refine .inl ⟨K, caps, true, ds, true, r, hf, rfl, hds, rfl, .inr (.inr (.inr ⟨eff, nw, by rw [hl'], .inr ⟨by rw [hl']; exact hK, he, hi, hk, fun id h1 h2 => ?_⟩, by rw [hm']⟩))⟩
 have h1 : nw.1 <= id := h1
 have h2 : id < nw.2 := h2
 simp only [St.fs, za0, decide_eq_true_eq]
 omega
end
def zpv (tab : Nat -> TI) (st : St) (l : List ResultVar) (r : D) : Prop := match resL tab st l with | some (ds, p) => p = true /\ resT ds = r | none => False
theorem zpv.to {tab : Nat -> TI} {st : St} {l : List ResultVar} {r : D} (h : zpv tab st l r) : ∃ ds, resL tab st l = some (ds, true) /\ resT ds = r := by
 unfold zpv at h
 split at h
 rename_i ds p he; obtain ⟨rfl, h2⟩ := h; exact ⟨ds, he, h2⟩
 exact h.elim
theorem zl8 (k : IntKind) (n : Int) (h1 : k.min <= n) (h2 : n <= k.max) : wr k n = n := by
 unfold wr
 cases k <;> simp [IntKind.wrap, IntKind.min, IntKind.max, IntKind.signed, IntKind.bits] at h1 h2 ⊢ <;> (try split) <;> omega
def zcw {α : Type} : List Nat -> List (Nat × α) -> List (Nat × α)
 | [], _ => []
 | t :: V, l => match getL l t with
  | some d => (t, d) :: zcw V l
  | none => zcw V l
theorem zav {α : Type} (V : List Nat) (l : List (Nat × α)) (t : Nat) (d : α) (h : getL (zcw V l) t = some d) : getL l t = some d := by
 induction V with
 | nil => cases h
 | cons v V ih =>
  simp only [zcw] at h
  split at h
  rename_i x hx
  simp only [getL] at h
  cases hb : Nat.beq v t
  rw [hb] at h; exact ih h
  rw [hb] at h; cases h; rw [<- nb hb]; exact hx
  exact ih h
theorem ya43 (V H : List Nat) (st : St) {nx : Nat} (hn : st.nx <= nx) : Sub ⟨zcw V st.vars, zcw H st.heap, nx⟩ st := ⟨fun t d h => zav V _ t d h, fun t d h => zav H _ t d h, hn⟩
theorem ya3x {P : Program} {K : FuncId} {args args' : List D} {r : D} (h : ∀ C vs, reps C args vs -> reps C args' vs) (hK : zb9 P K args' r) : zb9 P K args r :=
 ⟨hK.1, fun w vs hG hvs => hK.2 w vs hG (h _ _ hvs)⟩
theorem zu2 {s : Nat} {l : List D} (C : Cx) (v : Value) (h : rep C (.imm s l 4) v) : rep C (.imm s l 2) v \/ (l = [] /\ rep C (.imm s l 0) v) := by
 simp only [rep] at h ⊢
 obtain ⟨a, cap, rfl, h1, h2, _, _, _, h6, _, h7⟩ := h
 cases a with
 | some a0 =>
  left
  exact ⟨some a0, cap, rfl, h1, h2, by simp, by simp, by simp, by simp, by simp, by simpa [inW] using h7⟩
 | none =>
  right
  have hc := h6 rfl
  have hl : l = [] := List.length_eq_zero_iff.1 (by omega)
  subst hl
  exact ⟨rfl, none, cap, rfl, h1, h2, by simp, by simp, by simp [hc], fun _ => hc, by simp, .inl rfl⟩
theorem zwr {s s' c c' : Nat} (hc : c' % 8 = 4) (hz : 0 < c' / 8 -> 0 < c / 8) (C : Cx) (v : Value) (h : rep C (.imm s [] c) v) : rep C (.imm s' [] c') v := by
 simp only [rep] at h ⊢
 obtain ⟨a, cap, rfl, h1, h2, _, _, _, h6, h7, _⟩ := h
 exact ⟨a, cap, rfl, h1, h2, by omega, by omega, by omega, h6, fun h => h7 (hz h), .inl trivial⟩
end Go.Tm
namespace Go.Tm
open Go.RowKit Go.WideShapes
mutual
def wf : D -> Prop
 | .int k n => k.min <= n /\ n <= k.max
 | .str l => (l.length : Int) <= 9223372036854775807
 | .imm _ l c => (l.length : Int) <= 9223372036854775807 /\ (c < 8 -> wfL l)
 | .ref _ _ _ len _ => (len : Int) <= 9223372036854775807
 | .agg l => wfL l
 | .tuple l => wfL l
 | _ => True
def wfL : List D -> Prop
 | [] => True
 | d :: ds => wf d /\ wfL ds
end
mutual
theorem ya10 {C : Cx} : ∀ (d : D) (v : Value), rep C d v -> wf d
 | .int k n, v, h => by simp only [rep] at h; simp only [wf]; exact h.2
 | .str l, v, h => by simp only [rep] at h; simp only [wf]; exact h.2
 | .imm s l c, v, h => by
  simp only [rep] at h; simp only [wf]
  obtain ⟨a, cap, _, h1, h2, _, _, _, _, _, h3⟩ := h
  refine ⟨by omega, fun hc => ?_⟩
  rcases h3 with rfl | h3
  simp only [wfL]
  obtain ⟨_, _, _, _, _, _, he⟩ := h3 C.Z (by simp [Cx.zone, Nat.div_eq_of_lt hc])
  exact zyx l _ _ _ he
 | .ref id s off len oc, v, h => by
  simp only [rep] at h; simp only [wf]
  obtain ⟨_, a, cap, _, h1, h2, _⟩ := h
  omega
 | .agg l, v, h => by
  simp only [rep] at h; simp only [wf]
  obtain ⟨cs, _, h⟩ := h
  exact zu1 l cs h
 | .tuple l, v, h => by
  simp only [rep] at h; simp only [wf]
  obtain ⟨cs, _, h⟩ := h
  exact zu1 l cs h
 | .bool _, _, _ | .ptr _ _, _, _ | .eptr _ _ _ _, _, _ | .iptr _ _, _, _ | .nilptr, _, _ | .fn _ _, _, _ | .nilfn, _, _ | .iface _ _, _, _ | .nilIface, _, _ | .mref _, _, _ | .nilmap, _, _ | .when _ _, _, _ | .sc, _, _ | .undef, _, _ => by simp only [wf]
theorem zu1 {C : Cx} : ∀ (l : List D) (vs : List Value), reps C l vs -> wfL l
 | [], _, _ => by simp only [wfL]
 | d :: ds, vs, h => by
  simp only [reps] at h; simp only [wfL]
  obtain ⟨v, vs', _, h1, h2⟩ := h
  exact ⟨ya10 d v h1, zu1 ds vs' h2⟩
theorem zyx {C : Cx} : ∀ (l : List D) (b o s : Nat), elems C l b o s -> wfL l
 | [], b, o, s, h => by simp only [wfL]
 | d :: ds, b, o, s, h => by
  simp only [elems] at h
  obtain ⟨⟨v, h1, _⟩, h2⟩ := h
  simp only [wfL]
  exact ⟨ya10 d v h1, zyx ds _ _ _ h2⟩
end
section
variable {P : Program} {tab : Nat -> TI}
theorem zus {K : FuncId} {args : List D} {H : List (Nat × Blk)} {r : D} {eff : List (Nat × Option Blk)} {nw : Nat × Nat} (he : zlx P K) (h : wfL args -> zby P K args H r eff nw) : zby P K args H r eff nw :=
 ⟨he, fun fr w g hp nu vs a1 a2 a3 hvs => (h (zu1 _ _ hvs)).2 fr w g hp nu vs a1 a2 a3 hvs⟩
theorem zfa {K : FuncId} {args : List D} {r : D} {eff : List (Nat × Option Blk)} {nw : Nat × Nat} (hr : r.ids = []) (hk : okM new1 r = true) (h : zby P K args [] r eff nw) : zb9 P K args r := by
 refine ⟨h.1, fun w vs hG hvs => ?_⟩
 let g : Gh := ⟨fun _ => none, fun _ => True, fun m => if m = 1 then some (fun x => w.heap.size <= x) else if m = 2 then some (fun x => x < w.heap.size) else none⟩
 have hM : Mem w.heap.size w g (fun _ => none) (fun _ => true) := by
  refine ⟨(fun id blk h => by cases h), fun id id' b o o' h => absurd rfl h, fun id _ => ⟨rfl, rfl⟩, ⟨fun _ _ => trivial, ⟨_, rfl, fun x hx => ⟨hx, trivial⟩, fun x hx => hx⟩, ⟨_, rfl, fun x hx => ⟨hx, trivial⟩⟩, ?_, fun b hb => by obtain ⟨id, o, h1, _⟩ := hb; exact absurd rfl h1⟩, ⟨za4 _, hG⟩⟩
  intro m Zm hm hz
  have : g.zn m = none := by
   simp only [g]
   rw [if_neg (by omega), if_neg (by omega)]
  rw [this] at hz; cases hz
 have hle : Cx.Le (cx0 w w.heap.size) (cx w g fun _ => none) := by
  refine ⟨fun m _ Z' hZ' => ⟨Z', hZ', fun b _ k2 k3 => ⟨?_, k2, .refl k3⟩⟩, fun _ _ => rfl, fun _ => rfl, (fun x => by cases x), (fun x => by cases x)⟩
  rintro ⟨id, o, h1, _⟩
  exact h1 rfl
 refine (h.2 w.heap.size w g (fun _ => none) (fun _ => true) vs hM (fun id b h => by cases h) (fun _ _ _ => rfl) (zgv hle _ _ hvs)).mono ?_
 rintro e w' ⟨v, g', he, ha⟩
 refine ⟨v, he, ha.keep.mono ?_, hk, ?_⟩
 rintro i _ ⟨id, o, h1, _⟩
 exact h1 rfl
 refine zpa (C := (cx w' g' (effH (fun _ => none) eff)).noref) (C' := cx0 w' w.heap.size) (q := new1) ?_ (fun _ _ => rfl) rfl rfl r v hk (zm4 r v hr ha.res)
 intro m hm Z' hZ'
 have hm : m = 1 := nb hm
 subst hm
 refine ⟨fun b => w.heap.size <= b, ?_, fun b _ k2 _ => ⟨fun h => h, ?_, rfl⟩⟩
 show g'.zn 1 = _
 rw [ha.gz.2]
 rfl
 have : (fun b => w.heap.size <= b) = Z' := by simpa [Cx.zone, cx0] using hZ'
 rw [<- this]; exact k2
theorem znr (hT : zgy P tab) {K : FuncId} {fn : Func} {c : Code} {args : List D} {r : D} (lim : Nat) (hf : P.funcs[K]? = some fn) (hb : fn.body = some c) (hname : fn.name ≠ "runtime.NumGoroutine") (hr : r.ids = []) (hk : okM new1 r = true) (hlen : args.length <= fn.ntmps)
  (h : wfL args -> Ok P lim fn.ntmps c ⟨zfn 0 args, [], 0⟩ fun e st => (e = .normal \/ e = .ret) /\ ∃ ds, resL tab st fn.results.toList = some (ds, true) /\ resT ds = r) : zb9 P K args r := by
 refine zfa (eff := []) (nw := (0, lim)) hr hk (zus ⟨fn, hf, hname, by rw [hb]; rfl⟩ fun hwf => ?_)
 refine zss hT hf hb hname hlen (fun x hx => by cases hx) ((h hwf).mono ?_)
 rintro e st ⟨h1, ds, h2, h3⟩
 exact ⟨h1, ds, h2, h3, [], (fun i x h => by cases h), rfl⟩
theorem ziy (hT : zgy P tab) {K : FuncId} {fn : Func} {c : Code} {args : List D} {H : List (Nat × Blk)} {r : D} {eff : List (Nat × Option Blk)} {nw : Nat × Nat} (hf : P.funcs[K]? = some fn) (hb : fn.body = some c) (hname : fn.name ≠ "runtime.NumGoroutine") (hlen : args.length <= fn.ntmps)
  (hE : ∀ x ∈ eff, x.1 ∈ H.map (·.1) \/ nw.1 <= x.1 /\ x.1 < nw.2)
  (h : wfL args -> Ok P nw.2 fn.ntmps c ⟨zfn 0 args, H, nw.1⟩ fun e st => (e = .normal \/ e = .ret) /\ ∃ ds, resL tab st fn.results.toList = some (ds, true) /\ resT ds = r /\ ∃ h2 : List (Nat × Blk), (∀ i x, getL h2 i = some x -> getL st.heap i = some x) /\ getL h2 = effH (getL H) eff) : zby P K args H r eff nw :=
 zus ⟨fn, hf, hname, by rw [hb]; rfl⟩ fun hwf => zss hT hf hb hname hlen hE (h hwf)
end
theorem retH {tab : Nat -> TI} {st : St} {rs : List ResultVar} {r : D} {H : List (Nat × Blk)} {eff : List (Nat × Option Blk)} (V : List Nat) (hr : zpv tab st rs r) (he : zcw V st.heap = effL H eff) :
  ∃ ds, resL tab st rs = some (ds, true) /\ resT ds = r /\ ∃ h2 : List (Nat × Blk), (∀ i x, getL h2 i = some x -> getL st.heap i = some x) /\ getL h2 = effH (getL H) eff := by
 obtain ⟨ds, h1, h2⟩ := hr.to
 exact ⟨ds, h1, h2, zcw V st.heap, fun i x h => zav V _ i x h, by funext i; rw [he, zok]⟩
def Wk (d d' : D) : Prop := ∀ C v, rep C d v -> rep C d' v
def WkL (l l' : List D) : Prop := ∀ C vs, reps C l vs -> reps C l' vs
theorem Wk.refl (d : D) : Wk d d := fun _ _ h => h
theorem WkL.refl (l : List D) : WkL l l := fun _ _ h => h
theorem WkL.cons {d d' : D} {l l' : List D} (h : Wk d d') (hl : WkL l l') : WkL (d :: l) (d' :: l') := fun C vs hv => by
 simp only [reps] at hv ⊢
 obtain ⟨v, vs', e, h1, h2⟩ := hv
 exact ⟨v, vs', e, h C v h1, hl C vs' h2⟩
theorem Wk.agg {l l' : List D} (hl : WkL l l') : Wk (.agg l) (.agg l') := fun C v hv => by
 simp only [rep] at hv ⊢
 obtain ⟨cs, e, h⟩ := hv
 exact ⟨cs, e, hl C cs h⟩
theorem zii {P : Program} {K : FuncId} {args args' : List D} {r : D} (h : WkL args args') (hK : zb9 P K args' r) : zb9 P K args r := ya3x h hK
end Go.Tm
namespace Go.Tm
open Go.RowKit Go.WideShapes
end Go.Tm
namespace Go.Tm
open Go.RowKit Go.WideShapes
mutual
def pl : D -> Bool
 | .bool _ | .int _ _ | .str _ => true
 | .agg l => plL l
 | _ => false
def plL : List D -> Bool
 | [] => true
 | d :: ds => pl d && plL ds
end
end Go.Tm
namespace Go.Tm
open Go.RowKit Go.WideShapes
end Go.Tm
namespace Go.Tm
open Go.RowKit Go.WideShapes
mutual
def D.ren (f : Nat -> Nat) : D -> D
 | .agg l => .agg (D.renL f l)
 | .ref id s off len oc => .ref (f id) s off len oc
 | .ptr id off => .ptr (f id) off
 | .eptr id s i off => .eptr (f id) s i off
 | .mref id => .mref (f id)
 | .tuple l => .tuple (D.renL f l)
 | .fn g l => .fn g (D.renL f l)
 | .iface t d => .iface t (D.ren f d)
 | .when c d => .when c (D.ren f d)
 | d => d
def D.renL (f : Nat -> Nat) : List D -> List D
 | [] => []
 | d :: ds => D.ren f d :: D.renL f ds
end
def zrc (f : Nat -> Nat) : List (D × D) -> List (D × D)
 | [] => []
 | x :: xs => (x.1.ren f, x.2.ren f) :: zrc f xs
def Blk.ren (f : Nat -> Nat) : Blk -> Blk
 | .box cells => .box (D.renL f cells)
 | .arr e s p items => .arr e s p (bif p then items else D.renL f items)
 | .map es => .map (zrc f es)
def zue : List (D × D) -> List Nat
 | [] => []
 | x :: xs => x.1.ids ++ x.2.ids ++ zue xs
def Blk.ids : Blk -> List Nat
 | .box cells => D.idsL cells
 | .arr _ _ p items => bif p then [] else D.idsL items
 | .map es => zue es
structure Mv (f : Nat -> Nat) (L : Nat -> Prop) (C C' : Cx) : Prop where
 w : C'.w = C.w
 Z : C'.Z = C.Z
 zn : C'.zn = C.zn
 fl : C'.fl = C.fl
 rf : C'.rf = C.rf
 M : ∀ b, C'.M b -> C.M b
 s : ∀ i, L i -> C'.σ (f i) = C.σ i
theorem Mv.zone {f L C C'} (h : Mv f L C C') (m : Nat) : C'.zone m = C.zone m := by
 unfold Cx.zone; rw [h.Z, h.zn]
theorem Mv.inner {f L C C'} (h : Mv f L C C') (Z : Nat -> Prop) : (C.at Z).Le (C'.at Z) :=
 Cx.Le.inner (fun _ _ => by rw [h.w]) fun b k1 k2 _ => ⟨fun hm => k1 (h.M b hm), k2, by rw [h.w]⟩
theorem Mv.noref {f : Nat -> Nat} {L C C'} (h : Mv f L C C') (q : Bool) : Mv f L { C with rf := q } { C' with rf := q } := ⟨h.w, h.Z, h.zn, h.fl, rfl, h.M, h.s⟩
mutual
theorem zq1 {f : Nat -> Nat} {L : Nat -> Prop} {C C' : Cx} (h : Mv f L C C') : ∀ (d : D) (v : Value), (∀ i ∈ d.ids, L i) -> rep C d v -> rep C' (d.ren f) v
 | .bool b, v, _, hr => by simpa only [rep, D.ren] using hr
 | .int k n, v, _, hr => by simpa only [rep, D.ren] using hr
 | .str l, v, _, hr => by simpa only [rep, D.ren] using hr
 | .agg l, v, hi, hr => by
  simp only [rep, D.ren, D.ids] at hr hi ⊢
  obtain ⟨cs, rfl, hc⟩ := hr
  exact ⟨cs, rfl, zp9 h l cs hi hc⟩
 | .imm s l c, v, _, hr => by
  simp only [rep, D.ren] at hr ⊢
  obtain ⟨a, cap, rfl, h1, h2, h3, h4, h5, h6, hfl, h7⟩ := hr
  refine ⟨a, cap, rfl, h1, h2, h3, h4, h5, h6, fun x => by rw [h.fl]; exact hfl x, ?_⟩
  rcases h7 with h7 | h7
  exact .inl h7
  right
  intro Z' hZ'
  rw [h.zone] at hZ'
  obtain ⟨a0, ha, hs, hM, hlo, hb, he⟩ := h7 Z' hZ'
  exact ⟨a0, ha, hs, fun hm => hM (h.M _ hm), hlo, by rw [h.w]; exact hb, zfe (h.inner Z') l _ _ _ (by show C'.w.heap[_]? = C.w.heap[_]?; rw [h.w]) he⟩
 | .ref id s off len oc, v, hi, hr => by
  simp only [rep, D.ren, D.ids, List.mem_singleton, forall_eq] at hr hi ⊢
  obtain ⟨h0, a, cap, rfl, h1, h2, h3, hoc, h4⟩ := hr
  have hs := h.s id hi
  refine ⟨by rw [h.rf]; exact h0, a, cap, rfl, h1, h2, h3, ⟨hoc.1, fun ho => ?_⟩, ?_⟩
  obtain ⟨b, T, n, k1, k2, k3⟩ := hoc.2 ho
  exact ⟨b, T, n, by rw [hs]; exact k1, by rw [h.w]; exact k2, k3⟩
  rcases h4 with h4 | ⟨b, T, n, k1, k2, k3, k4⟩
  exact .inl h4
  exact .inr ⟨b, T, n, by rw [hs]; exact k1, k2, by rw [h.w]; exact k3, k4⟩
 | .ptr id off, v, hi, hr => by
  simp only [rep, D.ren, D.ids, List.mem_singleton, forall_eq] at hr hi ⊢
  obtain ⟨h0, b, o, hσ, rfl⟩ := hr
  exact ⟨by rw [h.rf]; exact h0, b, o, by rw [h.s id hi]; exact hσ, rfl⟩
 | .eptr id s i off, v, hi, hr => by
  simp only [rep, D.ren, D.ids, List.mem_singleton, forall_eq] at hr hi ⊢
  obtain ⟨h0, hs0, b, o, hσ, rfl⟩ := hr
  exact ⟨by rw [h.rf]; exact h0, hs0, b, o, by rw [h.s id hi]; exact hσ, rfl⟩
 | .iptr m l, v, _, hr => by
  simp only [rep, D.ren] at hr ⊢
  obtain ⟨a0, rfl, hs, hfl, hr⟩ := hr
  refine ⟨a0, rfl, hs, fun x => by rw [h.fl]; exact hfl x, ?_⟩
  rcases hr with hr | hr
  exact .inl hr
  right
  intro Z' hZ'
  rw [h.zone] at hZ'
  obtain ⟨hM, hlo, hb, he⟩ := hr Z' hZ'
  exact ⟨fun hm => hM (h.M _ hm), hlo, by rw [h.w]; exact hb, zsj (h.inner Z') l _ _ (by show C'.w.heap[_]? = C.w.heap[_]?; rw [h.w]) he⟩
 | .nilptr, v, _, hr => by simpa only [rep, D.ren] using hr
 | .tuple l, v, hi, hr => by
  simp only [rep, D.ren, D.ids] at hr hi ⊢
  obtain ⟨cs, rfl, hc⟩ := hr
  exact ⟨cs, rfl, zp9 h l cs hi hc⟩
 | .fn g l, v, hi, hr => by
  simp only [rep, D.ren, D.ids] at hr hi ⊢
  obtain ⟨cs, rfl, hc⟩ := hr
  exact ⟨cs, rfl, zp9 h l cs hi hc⟩
 | .nilfn, v, _, hr => by simpa only [rep, D.ren] using hr
 | .iface t d, v, hi, hr => by
  simp only [rep, D.ren, D.ids] at hr hi ⊢
  obtain ⟨x, rfl, hx⟩ := hr
  exact ⟨x, rfl, zq1 h d x hi hx⟩
 | .nilIface, v, _, hr => by simpa only [rep, D.ren] using hr
 | .mref id, v, hi, hr => by
  simp only [rep, D.ren, D.ids, List.mem_singleton, forall_eq] at hr hi ⊢
  obtain ⟨h0, b, o, hσ, rfl⟩ := hr
  exact ⟨by rw [h.rf]; exact h0, b, o, by rw [h.s id hi]; exact hσ, rfl⟩
 | .nilmap, v, _, hr => by simpa only [rep, D.ren] using hr
 | .sc, v, _, hr => by simpa only [rep, D.ren] using hr
 | .when c d, v, hi, hr => by
  simp only [rep, D.ren, D.ids] at hr hi ⊢
  exact ⟨fun hc => zq1 h d v hi (hr.1 hc), hr.2⟩
 | .undef, v, _, _ => by simp only [rep, D.ren]
theorem zp9 {f : Nat -> Nat} {L : Nat -> Prop} {C C' : Cx} (h : Mv f L C C') : ∀ (l : List D) (vs : List Value), (∀ i ∈ D.idsL l, L i) -> reps C l vs -> reps C' (D.renL f l) vs
 | [], vs, _, hr => by simpa only [reps, D.renL] using hr
 | d :: ds, vs, hi, hr => by
  simp only [reps, D.renL, D.idsL, List.mem_append] at hr hi ⊢
  obtain ⟨v, vs', rfl, h1, h2⟩ := hr
  exact ⟨v, vs', rfl, zq1 h d v (fun i k => hi i (.inl k)) h1, zp9 h ds vs' (fun i k => hi i (.inr k)) h2⟩
end
theorem zyz {f : Nat -> Nat} {L : Nat -> Prop} {C C' : Cx} (h : Mv f L C C') : ∀ (l : List D) (b o s : Nat), (∀ i ∈ D.idsL l, L i) -> elems C l b o s -> elems C' (D.renL f l) b o s
 | [], _, _, _, _, _ => by simp only [elems, D.renL]
 | d :: ds, b, o, s, hi, hr => by
  simp only [elems, D.renL, D.idsL, List.mem_append] at hr hi ⊢
  obtain ⟨⟨v, h1, h2, h2', h3⟩, h4⟩ := hr
  exact ⟨⟨v, zq1 h d v (fun i k => hi i (.inl k)) h1, h2, h2', by rw [h.w]; exact h3⟩, zyz h ds b (o + s) s (fun i k => hi i (.inr k)) h4⟩
theorem ya22 {f : Nat -> Nat} {L : Nat -> Prop} {C C' : Cx} (h : Mv f L C C') : ∀ (l : List (D × D)) (es : List MapEntry), (∀ i ∈ zue l, L i) -> zeh C l es -> zeh C' (zrc f l) es
 | [], es, _, hr => by simpa only [zeh, zrc] using hr
 | x :: xs, es, hi, hr => by
  simp only [zeh, zrc, zue, List.mem_append] at hr hi ⊢
  obtain ⟨e, es', rfl, ⟨h1, h2⟩, h3⟩ := hr
  exact ⟨e, es', rfl, ⟨zq1 h _ _ (fun i k => hi i (.inl (.inl k))) h1, zq1 h _ _ (fun i k => hi i (.inl (.inr k))) h2⟩, ya22 h xs es' (fun i k => hi i (.inr k)) h3⟩
theorem zyl {f : Nat -> Nat} {L : Nat -> Prop} {C C' : Cx} (h : Mv f L C C') {id : Nat} {blk : Blk} (hid : L id) (hi : ∀ i ∈ blk.ids, L i) (hr : holds C id blk) : holds C' (f id) (blk.ren f) := by
 have hs := h.s id hid
 cases blk with
 | box cells =>
  obtain ⟨b, cs, T, h1, h2, h3, h4⟩ := hr
  exact ⟨b, cs, T, by rw [hs]; exact h1, by rw [h.w]; exact h2, zp9 h _ _ hi h3, h4⟩
 | arr e s p items =>
  rcases hr with ⟨h1, h2⟩ | ⟨b, cs, h1, h2, h3, h4⟩
  left
  refine ⟨?_, by rw [hs]; exact h2⟩
  subst h1; cases p <;> rfl
  right
  refine ⟨b, cs, by rw [hs]; exact h1, by rw [h.w]; exact h2, ?_⟩
  cases p with
  | true =>
   refine ⟨h3, ?_⟩
   refine zfe (C := { C with rf := !true }) (C' := { C' with rf := !true }) ⟨fun m _ Z' hZ' => ?_, fun _ _ => by rw [h.w], fun hf => by show C'.fl = true; rw [h.fl]; exact hf, (fun hf => by cases hf), (fun hf => by cases hf)⟩ _ _ _ _ (by rw [h.w]) h4
   have hZ2 : C.zone m = some Z' := by rw [<- h.zone]; exact hZ'
   exact ⟨Z', hZ2, fun b k1 k2 k3 => ⟨fun hm => k1 (h.M b hm), k2, by rw [h.w]; exact .refl k3⟩⟩
  | false =>
   simp only [cond_false]
   have hl : ∀ l : List D, (D.renL f l).length = l.length := by intro l; induction l with | nil => rfl | cons d ds ih => simp only [D.renL, za5, ih]
   exact ⟨by rw [hl]; exact h3, zyz (h.noref _) _ _ _ _ (by simpa only [Blk.ids, cond_false] using hi) h4⟩
 | map es =>
  obtain ⟨b, ens, clock, h1, h2, h3⟩ := hr
  exact ⟨b, ens, clock, by rw [hs]; exact h1, by rw [h.w]; exact h2, ya22 h _ _ hi h3⟩
def mvF (ps : List (Nat × Nat)) (i : Nat) : Nat := match getL ps i with
 | some j => j
 | none => i
def mvV (f : Nat -> Nat) : List (Nat × D) -> List (Nat × D)
 | [] => []
 | (t, d) :: r => (t, d.ren f) :: mvV f r
def mvH (f : Nat -> Nat) : List (Nat × Blk) -> List (Nat × Blk)
 | [] => []
 | (i, b) :: r => (f i, b.ren f) :: mvH f r
def idsV : List (Nat × D) -> List Nat
 | [] => []
 | (_, d) :: r => d.ids ++ idsV r
def idsH : List (Nat × Blk) -> List Nat
 | [] => []
 | (i, b) :: r => i :: (b.ids ++ idsH r)
def mvOk (ps : List (Nat × Nat)) (n0 n1 : Nat) : List Nat -> Bool
 | [] => true
 | i :: r => (bif Nat.blt i n0 then Nat.beq (mvF ps i) i || (Nat.ble n0 (mvF ps i) && Nat.blt (mvF ps i) n1) else Nat.ble n0 (mvF ps i) && Nat.blt (mvF ps i) n1) && (r.all fun j => Nat.beq i j || !(Nat.beq (mvF ps i) (mvF ps j))) && mvOk ps n0 n1 r
theorem ya1g {ps : List (Nat × Nat)} {n0 n1 : Nat} : ∀ {l : List Nat}, mvOk ps n0 n1 l = true -> (∀ i ∈ l, (mvF ps i = i /\ i < n0) \/ (n0 <= mvF ps i /\ mvF ps i < n1)) /\ ∀ i ∈ l, ∀ j ∈ l, mvF ps i = mvF ps j -> i = j
 | [], _ => ⟨(fun _ h => by cases h), (fun _ h => by cases h)⟩
 | i :: r, h => by
  simp only [mvOk, za0] at h
  obtain ⟨⟨h1, h2⟩, h3⟩ := h
  obtain ⟨k1, k2⟩ := ya1g h3
  have e1 : (mvF ps i = i /\ i < n0) \/ (n0 <= mvF ps i /\ mvF ps i < n1) := by
   cases hb : Nat.blt i n0
   rw [hb] at h1
   simp only [cond_false, za0] at h1
   exact .inr ⟨lb h1.1, lb h1.2⟩
   rw [hb] at h1
   simp only [cond_true, zas, za0] at h1
   rcases h1 with h1 | h1
   exact .inl ⟨nb h1, lb hb⟩
   exact .inr ⟨lb h1.1, lb h1.2⟩
  have e2 : ∀ j ∈ r, mvF ps i = mvF ps j -> i = j := by
   intro j hj he
   have := List.all_eq_true.1 h2 j hj
   simp only [zas, Bool.not_eq_true'] at this
   rcases this with h | h
   exact nb h
   rw [he, Nat.beq_refl] at h; cases h
  refine ⟨fun x hx => ?_, fun x hx y hy he => ?_⟩
  rcases List.mem_cons.1 hx with rfl | hx
  exact e1
  exact k1 x hx
  rcases List.mem_cons.1 hx with hx | hx <;> rcases List.mem_cons.1 hy with hy | hy
  rw [hx, hy]
  rw [hx] at he ⊢; exact e2 y hy he
  rw [hy] at he ⊢; exact (e2 x hx he.symm).symm
  exact k2 x hx y hy he
theorem zyo {f : Nat -> Nat} : ∀ (l : List (Nat × D)) (t : Nat), getL (mvV f l) t = (getL l t).map (D.ren f)
 | [], _ => rfl
 | (a, d) :: r, t => by
  simp only [mvV, getL]
  cases Nat.beq a t
  simp only [cond_false]; exact zyo r t
  rfl
theorem zye : ∀ {l : List (Nat × D)} {t : Nat} {d : D}, getL l t = some d -> ∀ i ∈ d.ids, i ∈ idsV l
 | (a, x) :: r, t, d, h, i, hi => by
  simp only [getL] at h
  simp only [idsV, List.mem_append]
  cases hb : Nat.beq a t
  rw [hb] at h; exact .inr (zye h i hi)
  rw [hb] at h; cases h; exact .inl hi
theorem zyf : ∀ {l : List (Nat × Blk)} {t : Nat} {b : Blk}, getL l t = some b -> t ∈ idsH l /\ ∀ i ∈ b.ids, i ∈ idsH l
 | (a, x) :: r, t, b, h => by
  simp only [getL] at h
  simp only [idsH, List.mem_cons, List.mem_append]
  cases hb : Nat.beq a t
  rw [hb] at h
  obtain ⟨h1, h2⟩ := zyf h
  exact ⟨.inr (.inr h1), fun i hi => .inr (.inr (h2 i hi))⟩
  rw [hb] at h; cases h
  exact ⟨.inl (nb hb).symm, fun i hi => .inr (.inl hi)⟩
theorem zyp {f : Nat -> Nat} : ∀ (l : List (Nat × Blk)), (∀ i ∈ idsH l, ∀ j ∈ idsH l, f i = f j -> i = j) -> ∀ (t : Nat) (b : Blk), getL (mvH f l) t = some b -> ∃ i b0, getL l i = some b0 /\ f i = t /\ b = b0.ren f
 | [], _, _, _, h => by cases h
 | (a, x) :: r, hinj, t, b, h => by
  simp only [mvH, getL] at h
  cases hb : Nat.beq (f a) t
  rw [hb] at h
  obtain ⟨i, b0, h1, h2, h3⟩ := zyp r (fun i hi j hj => hinj i (by simp [idsH, hi]) j (by simp [idsH, hj])) t b h
  refine ⟨i, b0, ?_, h2, h3⟩
  simp only [getL]
  cases hc : Nat.beq a i
  exact h1
  have := nb hc
  subst this
  rw [h2] at hb
  simp at hb
  rw [hb] at h
  cases h
  exact ⟨a, x, by simp [getL], nb hb, rfl⟩
section
variable {E : En} {n lim : Nat} {F : FrS} {a : Act} {w : World} {g : Gh} {st : St}
theorem Rel.move (hF : F.on lim st) (h : Rel E n F a w g) (ps : List (Nat × Nat)) (n0 n1 : Nat) (hn0 : n0 <= n1) (hn1 : n1 <= lim) (hE : ∀ id, n0 <= id -> id < lim -> E.nu0 id = true) (hok : mvOk ps n0 n1 (idsV st.vars ++ idsH st.heap) = true) :
  ∃ F' g', F'.on lim ⟨mvV (mvF ps) st.vars, mvH (mvF ps) st.heap, n1⟩ /\ Rel E n F' a w g' := by
 obtain ⟨h1, h2, h3⟩ := hF
 obtain ⟨hp, hinj⟩ := ya1g hok
 let L : Nat -> Prop := fun i => i ∈ idsV st.vars ++ idsH st.heap
 classical
 let σ' : Nat -> Option (Nat × Nat) := fun j => if n0 <= j /\ j < lim then (if hx : ∃ i, L i /\ mvF ps i = j then g.σ hx.choose else none) else g.σ j
 have hs : ∀ i, L i -> σ' (mvF ps i) = g.σ i := by
  intro i hi
  show (if _ then _ else _) = _
  rcases hp i hi with ⟨k1, k2⟩ | ⟨k1, k2⟩
  rw [if_neg (by rw [k1]; omega), k1]
  rw [if_pos ⟨k1, by omega⟩]
  have hx : ∃ i', L i' /\ mvF ps i' = mvF ps i := ⟨i, hi, rfl⟩
  rw [dif_pos hx, hinj _ hx.choose_spec.1 _ hi hx.choose_spec.2]
 let g' : Gh := ⟨σ', g.Z, g.zn⟩
 let hp' : Nat -> Option Blk := getL (mvH (mvF ps) st.heap)
 have hH : ∀ id blk, hp' id = some blk -> ∃ i b0, getL st.heap i = some b0 /\ mvF ps i = id /\ blk = b0.ren (mvF ps) /\ L i /\ ∀ k ∈ b0.ids, L k := by
  intro id blk hb
  obtain ⟨i, b0, e1, e2, e3⟩ := zyp st.heap (fun i hi j hj => hinj i (List.mem_append_right _ hi) j (List.mem_append_right _ hj)) id blk hb
  obtain ⟨m1, m2⟩ := zyf e1
  exact ⟨i, b0, e1, e2, e3, List.mem_append_right _ m1, fun k hk => List.mem_append_right _ (m2 k hk)⟩
 have hlive : ∀ id, hp' id ≠ none -> ∃ i, F.hp i ≠ none /\ mvF ps i = id /\ L i := by
  intro id hid
  obtain ⟨b, hb⟩ := Option.ne_none_iff_exists'.1 hid
  obtain ⟨i, b0, e1, e2, _, e4, _⟩ := hH id b hb
  exact ⟨i, by rw [h2, e1]; simp, e2, e4⟩
 have hM : ∀ b, ownB g' hp' b -> ownB g F.hp b := by
  rintro b ⟨id, o, k1, k2⟩
  obtain ⟨i, e1, rfl, e3⟩ := hlive id k1
  have k2 : σ' (mvF ps i) = some (b, o) := k2
  rw [hs i e3] at k2
  exact ⟨i, o, e1, k2⟩
 have hmv : Mv (mvF ps) L (cx w g F.hp) (cx w g' hp') := ⟨rfl, rfl, rfl, rfl, rfl, hM, hs⟩
 let nu' : Nat -> Bool := fun id => decide (n1 <= id) && decide (id < lim)
 refine ⟨⟨getR (mvV (mvF ps) st.vars), hp', nu'⟩, g', ⟨rfl, rfl, fun id k1 k2 => by simp [nu', show n1 <= id from k1, k2]⟩, ⟨h.sz, h.df, fun t => ?_, ?_, ?_, h.keep, h.gz, ?_, ?_⟩⟩
 have hr := h.rd t
 show rep (cx w g' hp') (getR (mvV (mvF ps) st.vars) t) _
 rw [h1] at hr
 unfold getR at hr ⊢
 rw [zyo]
 cases hg : getL st.vars t with
 | none => simp only [Option.map_none, rep]
 | some d =>
  rw [hg] at hr
  exact zq1 hmv d _ (fun i hi => List.mem_append_left _ (zye hg i hi)) hr
 refine ⟨fun id blk hb => ?_, fun id id' b o o' k1 k2 k3 k4 => ?_, fun id hid => ?_, ?_, h.mem.fl⟩
 obtain ⟨i, b0, e1, rfl, rfl, e4, e5⟩ := hH id blk hb
 exact zyl hmv e4 e5 (h.mem.hd i b0 (by rw [h2]; exact e1))
 obtain ⟨i, e1, rfl, e3⟩ := hlive id k1
 obtain ⟨i', e1', rfl, e3'⟩ := hlive id' k2
 have k3 : σ' (mvF ps i) = some (b, o) := k3
 have k4 : σ' (mvF ps i') = some (b, o') := k4
 rw [hs i e3] at k3
 rw [hs i' e3'] at k4
 rw [h.mem.inj i i' b o o' e1 e1' k3 k4]
 simp only [nu', za0, decide_eq_true_eq] at hid
 have hno : ¬ ∃ i, L i /\ mvF ps i = id /\ n0 <= id := by
  rintro ⟨i, e1, rfl, e3⟩
  rcases hp i e1 with ⟨e4, e5⟩ | ⟨_, e5⟩ <;> omega
 by_cases hb : n0 <= id
 refine ⟨?_, ?_⟩
 show (if _ then _ else _) = _
 rw [if_pos ⟨hb, hid.2⟩, dif_neg (fun ⟨i, e1, e2⟩ => hno ⟨i, e1, e2, hb⟩)]
 cases hh : hp' id with
 | none => exact hh
 | some blk =>
  obtain ⟨i, b0, _, e2, _, e4, _⟩ := hH id blk hh
  exact absurd ⟨i, e4, e2, hb⟩ hno
 omega
 refine ⟨h.mem.zs.z0, h.mem.zs.z1, h.mem.zs.z2, fun m Zm hm hz b hb => ?_, fun b hb => h.mem.zs.zo b (hM b hb)⟩
 obtain ⟨e1, e2, e3, e4, e5⟩ := h.mem.zs.zr m Zm hm hz b hb
 exact ⟨e1, e2, e3, fun hx => e4 (hM b hx), e5⟩
 intro id b o k1 k2
 obtain ⟨i, e1, rfl, e3⟩ := hlive id k1
 have k2 : σ' (mvF ps i) = some (b, o) := k2
 rw [hs i e3] at k2
 exact h.base i b o e1 k2
 intro id hid
 show (if _ then _ else _) = _
 rw [if_neg fun ⟨k1, k2⟩ => by rw [hE id k1 k2] at hid; cases hid]
 exact h.gs id hid
 intro id hid
 simp only [nu', za0, decide_eq_true_eq] at hid
 by_cases hb : n0 <= id
 exact hE id hb hid.2
 omega
end
def MvTo (lim n0 : Nat) (V H : List Nat) (ps : List (Nat × Nat)) (st s : St) : Prop :=
 (⟨mvV (mvF ps) (zcw V st.vars), mvH (mvF ps) (zcw H st.heap), s.nx⟩ : St) = s /\ n0 <= s.nx /\ s.nx <= lim /\ mvOk ps n0 s.nx (idsV (zcw V st.vars) ++ idsH (zcw H st.heap)) = true
theorem Rel.mvTo {E : En} {n lim n0 : Nat} {F : FrS} {a : Act} {w : World} {g : Gh} {st s : St} {V H : List Nat} {ps : List (Nat × Nat)} (hF : F.on lim st) (h : Rel E n F a w g) (hE : ∀ id, n0 <= id -> id < lim -> E.nu0 id = true) (hm : MvTo lim n0 V H ps st s) :
  ∃ F' g', F'.on lim s /\ Rel E n F' a w g' := by
 obtain ⟨h1, h2, h3, h4⟩ := hm
 obtain ⟨F1, hF1, hR1⟩ := h.sub hF (ya43 V H st (nx := st.nx) (za4 _))
 obtain ⟨F2, g2, hF2, hR2⟩ := hR1.move hF1 ps n0 s.nx h2 h3 hE h4
 rw [h1] at hF2
 exact ⟨F2, g2, hF2, hR2⟩
abbrev uC : Nat := 9223372036854775808
theorem Wk.unk (id s off len : Nat) (oc : Option Nat) : Wk (.ref id s off len oc) (.ref id s off len (some uC)) := fun _ _ h => zwq h rfl
section
variable {π : Nat -> Nat}
mutual
theorem zu5 (hπ : ∀ i, π (π i) = i) : ∀ d : D, (d.ren π).ren π = d
 | .agg l => by simp only [D.ren, zju hπ l]
 | .ref id s off len oc => by simp only [D.ren, hπ]
 | .ptr id off => by simp only [D.ren, hπ]
 | .eptr id s i off => by simp only [D.ren, hπ]
 | .mref id => by simp only [D.ren, hπ]
 | .tuple l => by simp only [D.ren, zju hπ l]
 | .fn g l => by simp only [D.ren, zju hπ l]
 | .iface t d => by simp only [D.ren, zu5 hπ d]
 | .when c d => by simp only [D.ren, zu5 hπ d]
 | .bool _ | .int _ _ | .str _ | .imm _ _ _ | .iptr _ _ | .nilptr | .nilfn | .nilIface | .nilmap | .sc | .undef => by simp only [D.ren]
theorem zju (hπ : ∀ i, π (π i) = i) : ∀ l : List D, D.renL π (D.renL π l) = l
 | [] => by simp only [D.renL]
 | d :: ds => by simp only [D.renL, zu5 hπ d, zju hπ ds]
end
theorem zra (hπ : ∀ i, π (π i) = i) : ∀ l : List (D × D), zrc π (zrc π l) = l
 | [] => by simp only [zrc]
 | x :: xs => by simp only [zrc, zu5 hπ, zra hπ xs]
theorem zsu (hπ : ∀ i, π (π i) = i) : ∀ b : Blk, (b.ren π).ren π = b
 | .box _ => by simp only [Blk.ren, zju hπ]
 | .arr _ _ true _ => by simp only [Blk.ren, cond_true]
 | .arr _ _ false _ => by simp only [Blk.ren, cond_false, zju hπ]
 | .map _ => by simp only [Blk.ren, zra hπ]
theorem ya7k (hπ : ∀ i, π (π i) = i) {i j : Nat} (h : π i = π j) : i = j := by rw [<- hπ i, h, hπ]
def zzk (π : Nat -> Nat) (g : Gh) : Gh := ⟨fun i => g.σ (π i), g.Z, g.zn⟩
def zoa (π : Nat -> Nat) (hp : Nat -> Option Blk) : Nat -> Option Blk := fun i => (hp (π i)).map (Blk.ren π)
theorem zo9 {hp : Nat -> Option Blk} {i : Nat} : zoa π hp i ≠ none ↔ hp (π i) ≠ none := by simp [zoa]
theorem zob (hπ : ∀ i, π (π i) = i) {g : Gh} {hp : Nat -> Option Blk} {b : Nat} : ownB (zzk π g) (zoa π hp) b ↔ ownB g hp b := by
 constructor
 rintro ⟨id, o, h1, h2⟩
 exact ⟨π id, o, zo9.1 h1, h2⟩
 rintro ⟨id, o, h1, h2⟩
 exact ⟨π id, o, by rw [zo9, hπ]; exact h1, by show g.σ (π (π id)) = _; rw [hπ]; exact h2⟩
theorem ya1f (hπ : ∀ i, π (π i) = i) (w : World) (g : Gh) (hp : Nat -> Option Blk) : Mv π (fun _ => True) (cx w g hp) (cx w (zzk π g) (zoa π hp)) :=
 ⟨rfl, rfl, rfl, rfl, rfl, fun _ h => (zob hπ).1 h, fun i _ => by show g.σ (π (π i)) = g.σ i; rw [hπ]⟩
theorem Mem.ren (hπ : ∀ i, π (π i) = i) {fr : Nat} {w : World} {g : Gh} {hp : Nat -> Option Blk} {nu nu' : Nat -> Bool} (h : Mem fr w g hp nu) (hnu : ∀ id, nu' id = true -> nu (π id) = true) : Mem fr w (zzk π g) (zoa π hp) nu' := by
 refine ⟨fun id blk hb => ?_, fun id id' b o o' k1 k2 k3 k4 => ?_, fun id hid => ?_, ?_, h.fl⟩
 unfold zoa at hb
 cases hx : hp (π id) with
 | none => rw [hx] at hb; cases hb
 | some b0 =>
  rw [hx] at hb
  cases hb
  have := zyl (ya1f hπ w g hp) (id := π id) (blk := b0) trivial (fun _ _ => trivial) (h.hd _ _ hx)
  rwa [hπ] at this
 exact ya7k hπ (h.inj (π id) (π id') b o o' (zo9.1 k1) (zo9.1 k2) k3 k4)
 obtain ⟨h1, h2⟩ := h.nw (π id) (hnu id hid)
 exact ⟨h1, by simp [zoa, h2]⟩
 refine ⟨h.zs.z0, h.zs.z1, h.zs.z2, fun m Zm hm hz b hb => ?_, fun b hb => h.zs.zo b ((zob hπ).1 hb)⟩
 obtain ⟨e1, e2, e3, e4, e5⟩ := h.zs.zr m Zm hm hz b hb
 exact ⟨e1, e2, e3, fun hx => e4 ((zob hπ).1 hx), e5⟩
def renE (π : Nat -> Nat) : List (Nat × Option Blk) -> List (Nat × Option Blk)
 | [] => []
 | (i, some b) :: r => (π i, some (b.ren π)) :: renE π r
 | (i, none) :: r => (π i, none) :: renE π r
theorem zvv (hπ : ∀ i, π (π i) = i) : ∀ (l : List (Nat × Option Blk)) (i : Nat), getL (renE π l) i = (getL l (π i)).map (Option.map (Blk.ren π))
 | [], _ => rfl
 | (a, x) :: r, i => by
  have ih := zvv hπ r i
  have hb : Nat.beq (π a) i = Nat.beq a (π i) := by
   by_cases e : π a = i
   subst e; rw [hπ]; simp
   rw [zdi e, zdi (fun e' => e (by rw [e', hπ]))]
  cases x <;> simp only [renE, getL, hb, ih] <;> cases Nat.beq a (π i) <;> rfl
theorem zs0 (hπ : ∀ i, π (π i) = i) : ∀ (l : List (Nat × Blk)) (i : Nat), getL (mvH π l) i = (getL l (π i)).map (Blk.ren π)
 | [], _ => rfl
 | (a, x) :: r, i => by
  have ih := zs0 hπ r i
  have hb : Nat.beq (π a) i = Nat.beq a (π i) := by
   by_cases e : π a = i
   subst e; rw [hπ]; simp
   rw [zdi e, zdi (fun e' => e (by rw [e', hπ]))]
  simp only [mvH, getL, hb, ih]
  cases Nat.beq a (π i) <;> rfl
theorem zow (hπ : ∀ i, π (π i) = i) {P : Program} {K : FuncId} {args : List D} {H : List (Nat × Blk)} {r : D} {eff : List (Nat × Option Blk)} {nw : Nat × Nat} (nw' : Nat × Nat) (hnw : ∀ id, nw.1 <= id -> id < nw.2 -> nw'.1 <= π id /\ π id < nw'.2) (h : zby P K args H r eff nw) :
  zby P K (D.renL π args) (mvH π H) (r.ren π) (renE π eff) nw' := by
 refine ⟨h.1, fun fr w g hp nu vs hM hH hn hvs => ?_⟩
 have hmv := ya1f hπ w g hp
 have hargs := zp9 hmv _ _ (fun _ _ => trivial) hvs
 rw [zju hπ] at hargs
 have hM1 : Mem fr w (zzk π g) (zoa π hp) (fun i => nu (π i)) := hM.ren hπ fun _ h => h
 refine (h.2 fr w (zzk π g) (zoa π hp) (fun i => nu (π i)) vs hM1 (fun id b hb => ?_) (fun id h1 h2 => ?_) hargs).mono ?_
 have := hH (π id) (b.ren π) (by rw [zs0 hπ, hπ, hb]; rfl)
 simp only [zoa, this, Option.map_some, zsu hπ]
 obtain ⟨k1, k2⟩ := hnw id h1 h2
 exact hn (π id) k1 k2
 rintro e w' ⟨v, g1, rfl, hA⟩
 refine ⟨v, zzk π g1, rfl, ?_⟩
 have hpe : zoa π (effH (zoa π hp) eff) = effH hp (renE π eff) := by
  funext i
  unfold effH
  rw [zvv hπ]
  simp only [zoa]
  cases hg : getL eff (π i) with
  | none =>
   simp only [Option.map_none, hπ, Option.map_map]
   cases hp i with
   | none => rfl
   | some b => simp only [Option.map_some, Function.comp, zsu hπ]
  | some ob => rfl
 refine ⟨hA.gz, fun id hid => ?_, ?_, ?_, ?_, ?_⟩
 have := hA.gs (π id) (by show nu (π (π id)) = false; rw [hπ]; exact hid)
 show g1.σ (π id) = g.σ id
 rw [this]
 show g.σ (π (π id)) = _
 rw [hπ]
 refine hA.keep.mono ?_
 rintro b _ ⟨id, o, h1, h2, h3⟩
 refine ⟨π id, o, ?_, zo9.1 h2, h3⟩
 show getL (mvH π H) (π id) ≠ none
 rw [zs0 hπ, hπ]
 simpa using h1
 have := hA.mem.ren hπ (nu' := effN nu nw') fun id hid => by
  simp only [effN, za0, Bool.not_eq_true', Bool.and_eq_false_iff, decide_eq_false_iff_not, hπ] at hid ⊢
  refine ⟨hid.1, ?_⟩
  by_cases h1 : nw.1 <= π id
  by_cases h2 : π id < nw.2
  obtain ⟨k1, k2⟩ := hnw (π id) h1 h2
  rw [hπ] at k1 k2
  rcases hid.2 with h | h <;> omega
  exact .inr h2
  exact .inl h1
 rwa [hpe] at this
 intro b hb
 rw [<- hpe] at hb
 rcases hA.own b ((zob hπ).1 hb) with h | h
 exact .inl h
 exact .inr ((zob hπ).1 h)
 have := zq1 (ya1f hπ w' g1 (effH (zoa π hp) eff)) r v (fun _ _ => trivial) hA.res
 rwa [hpe] at this
end
def bsw (a b m i : Nat) : Nat := bif Nat.ble a i && Nat.blt i (a + m) then b + (i - a) else bif Nat.ble b i && Nat.blt i (b + m) then a + (i - b) else i
theorem zxk {a b m : Nat} (h : a + m <= b) (i : Nat) : bsw a b m (bsw a b m i) = i := by
 have c1 : ∀ x y : Nat, (Nat.ble x y = true ↔ x <= y) := fun x y => ⟨lb, zam⟩
 have c2 : ∀ x y : Nat, (Nat.blt x y = true ↔ x < y) := fun x y => ⟨fun h => lb h, fun h => zam h⟩
 unfold bsw
 cases h1 : (Nat.ble a i && Nat.blt i (a + m))
 cases h2 : (Nat.ble b i && Nat.blt i (b + m))
 simp only [cond_false, h1, h2]
 simp only [za0, c1, c2] at h2
 have e1 : (Nat.ble a (a + (i - b)) && Nat.blt (a + (i - b)) (a + m)) = true := by simp only [za0, c1, c2]; omega
 simp only [cond_false, cond_true, e1]
 omega
 simp only [za0, c1, c2] at h1
 have e1 : (Nat.ble a (b + (i - a)) && Nat.blt (b + (i - a)) (a + m)) = false := by
  rw [<- Bool.not_eq_true]; simp only [za0, c1, c2]; omega
 have e2 : (Nat.ble b (b + (i - a)) && Nat.blt (b + (i - a)) (b + m)) = true := by simp only [za0, c1, c2]; omega
 simp only [cond_false, cond_true, e1, e2]
 omega
def sw (a b i : Nat) : Nat := bif Nat.beq i a then b else bif Nat.beq i b then a else i
theorem ya8g (a b i : Nat) : sw a b (sw a b i) = i := by
 unfold sw
 by_cases h1 : i = a
 subst h1
 by_cases h2 : i = b
 subst h2; simp
 simp [zdi (Ne.symm h2)]
 by_cases h2 : i = b
 subst h2; simp [zdi h1]
 simp [zdi h1, zdi h2]
mutual
def frz (hp : Nat -> Option Blk) : D -> D × Bool
 | .ref id s off len _ => match hp id with
  | some (.arr _ s' p items) => (.imm s (unfL ((items.drop off).take len)) 13, Nat.beq s s' && Nat.ble (off + len) items.length && p && okML new1 ((items.drop off).take len) && (D.idsL ((items.drop off).take len)).isEmpty)
  | _ => (.undef, false)
 | .imm s l c => (.imm s l c, new1 (c / 8) || l.isEmpty)
 | .agg l => (.agg (frzs hp l).1, (frzs hp l).2)
 | .tuple l => (.tuple (frzs hp l).1, (frzs hp l).2)
 | .iface t d => (.iface t (frz hp d).1, (frz hp d).2)
 | .bool b => (.bool b, true)
 | .int k n => (.int k n, true)
 | .str l => (.str l, true)
 | .nilptr => (.nilptr, true)
 | .nilfn => (.nilfn, true)
 | .nilIface => (.nilIface, true)
 | .nilmap => (.nilmap, true)
 | _ => (.undef, false)
def frzs (hp : Nat -> Option Blk) : List D -> List D × Bool
 | [] => ([], true)
 | d :: ds => ((frz hp d).1 :: (frzs hp ds).1, (frz hp d).2 && (frzs hp ds).2)
end
theorem zvx {fr : Nat} {w : World} {g : Gh} {hp : Nat -> Option Blk} : ((cx w g hp).at fun b => fr <= b).Le ((cx0 w fr).at fun b => fr <= b) :=
 Cx.Le.inner (C := cx w g hp) (C' := cx0 w fr) (fun _ _ => rfl) fun _ _ h2 _ => ⟨fun h => h, h2, rfl⟩
mutual
theorem ya1y {fr : Nat} {w : World} {g : Gh} {hp : Nat -> Option Blk} (hd : ∀ id blk, hp id = some blk -> holds (cx w g hp) id blk) (hz : g.zn 1 = some fun b => fr <= b) (ho : ∀ b, ownB g hp b -> fr <= b) : ∀ (d : D) (v : Value), rep (cx w g hp) d v -> (frz hp d).2 = true -> rep (cx0 w fr) (frz hp d).1 v
 | .ref id s off len oc, v, h, hp' => by
  simp only [frz] at hp' ⊢
  split at hp'
  rename_i e s' p items hb
  simp only [za0, List.isEmpty_iff] at hp' ⊢
  obtain ⟨⟨⟨⟨h1, hl⟩, rfl⟩, hk⟩, hi⟩ := hp'
  obtain rfl := nb h1
  have hl := lb hl
  simp only [rep] at h
  obtain ⟨_, ad, cap, rfl, h1, h2, h3, _, h4⟩ := h
  have hlen : (unfL ((items.drop off).take len)).length = len := by rw [zjk]; simp; omega
  simp only [rep]
  refine ⟨ad, cap, by rw [hlen], by omega, h2, by simp, by simp, by simp, h3, fun _ => rfl, ?_⟩
  by_cases hz0 : len = 0
  left; subst hz0; simp [unfL]
  right
  rcases h4 with h4 | ⟨b, T, nn, hσ, rfl, hsh, hn⟩
  omega
  rcases hd id _ hb with ⟨rfl, _⟩ | ⟨b', cs, hσ', hblk, hsz, hel⟩
  simp at hl; omega
  have e := hσ'.symm.trans hσ
  simp only [za3, za6] at e
  obtain ⟨rfl, _⟩ := e
  intro Z' hZ'
  have hZ' : (fun b => fr <= b) = Z' := by simpa [Cx.zone, cx0] using hZ'
  subst hZ'
  refine ⟨_, rfl, rfl, fun h => h, ho _ ⟨id, 0, by rw [hb]; simp, hσ⟩, ⟨(Array.getElem?_eq_some_iff.1 hblk).1, fun _ => ⟨cs, _, hblk⟩⟩, ?_⟩
  have he := zg6 _ len _ _ _ (zhc _ off _ _ _ hel)
  have he2 := zn1 (C := { cx w g hp with rf := !true }) (q := new1) (Zt := fun b => fr <= b) (fun m hm => ⟨fun b => fr <= b, by
   obtain rfl : m = 1 := nb hm
   simpa [Cx.zone, cx] using hz, fun b _ hb _ => hb⟩) _ _ _ _ hk hi he
  rw [Nat.zero_add] at he2
  exact zfe (C := (cx w g hp).at fun b => fr <= b) zvx _ _ _ _ rfl he2
  cases hp'
 | .imm s l c, v, h, hp' => by
  simp only [frz, zas, List.isEmpty_iff] at hp' ⊢
  simp only [rep] at h ⊢
  obtain ⟨a, cap, rfl, h1, h2, h3, h4, h5, h6, hfl, h7⟩ := h
  refine ⟨a, cap, rfl, h1, h2, h3, h4, h5, h6, fun _ => rfl, ?_⟩
  rcases h7 with h7 | h7
  exact .inl h7
  rcases hp' with hk | hk
  right
  intro Z' hZ'
  have hc : c / 8 = 1 := nb hk
  rw [hc] at hZ'
  have hZ' : (fun b => fr <= b) = Z' := by simpa [Cx.zone, cx0] using hZ'
  subst hZ'
  obtain ⟨a0, ha, hs, hM, hlo, hb, he⟩ := h7 (fun b => fr <= b) (by rw [hc]; simpa [Cx.zone, cx] using hz)
  exact ⟨a0, ha, hs, fun h => h, hlo, hb, zfe (C := (cx w g hp).at fun b => fr <= b) zvx _ _ _ _ rfl he⟩
  exact .inl hk
 | .agg l, v, h, hp' => by
  simp only [frz] at hp' ⊢
  simp only [rep] at h ⊢
  obtain ⟨cs, rfl, h⟩ := h
  exact ⟨cs, rfl, zx8 hd hz ho l cs h hp'⟩
 | .tuple l, v, h, hp' => by
  simp only [frz] at hp' ⊢
  simp only [rep] at h ⊢
  obtain ⟨cs, rfl, h⟩ := h
  exact ⟨cs, rfl, zx8 hd hz ho l cs h hp'⟩
 | .iface t d, v, h, hp' => by
  simp only [frz] at hp' ⊢
  simp only [rep] at h ⊢
  obtain ⟨x, rfl, h⟩ := h
  exact ⟨x, rfl, ya1y hd hz ho d x h hp'⟩
 | .bool b, v, h, _ => by simpa only [frz, rep] using h
 | .int k n, v, h, _ => by simpa only [frz, rep] using h
 | .str l, v, h, _ => by simpa only [frz, rep] using h
 | .nilptr, v, h, _ => by simpa only [frz, rep] using h
 | .nilfn, v, h, _ => by simpa only [frz, rep] using h
 | .nilIface, v, h, _ => by simpa only [frz, rep] using h
 | .nilmap, v, h, _ => by simpa only [frz, rep] using h
 | .ptr _ _, _, _, hp' | .eptr _ _ _ _, _, _, hp' | .iptr _ _, _, _, hp' | .fn _ _, _, _, hp' | .mref _, _, _, hp' | .when _ _, _, _, hp' | .sc, _, _, hp' | .undef, _, _, hp' => by simp [frz] at hp'
theorem zx8 {fr : Nat} {w : World} {g : Gh} {hp : Nat -> Option Blk} (hd : ∀ id blk, hp id = some blk -> holds (cx w g hp) id blk) (hz : g.zn 1 = some fun b => fr <= b) (ho : ∀ b, ownB g hp b -> fr <= b) : ∀ (l : List D) (vs : List Value), reps (cx w g hp) l vs -> (frzs hp l).2 = true -> reps (cx0 w fr) (frzs hp l).1 vs
 | [], vs, h, _ => by simp only [reps, frzs] at h ⊢; exact h
 | d :: ds, vs, h, hp' => by
  simp only [frzs, za0] at hp' ⊢
  simp only [reps] at h ⊢
  obtain ⟨v, vs', rfl, h1, h2⟩ := h
  exact ⟨v, vs', rfl, ya1y hd hz ho d v h1 hp'.1, zx8 hd hz ho ds vs' h2 hp'.2⟩
end
mutual
theorem zwz {hp : Nat -> Option Blk} : ∀ d : D, (frz hp d).2 = true -> okM new1 (frz hp d).1 = true
 | .ref id s off len oc, h => by
  simp only [frz] at h ⊢
  split at h
  simp [okM, new1]
  cases h
 | .imm s l c, h => by simpa only [frz, okM] using h
 | .agg l, h => by
  simp only [frz] at h ⊢
  simp only [okM]; exact zu9 l h
 | .tuple l, h => by
  simp only [frz] at h ⊢
  simp only [okM]; exact zu9 l h
 | .iface t d, h => by
  simp only [frz] at h ⊢
  simp only [okM]; exact zwz d h
 | .bool _, _ | .int _ _, _ | .str _, _ | .nilptr, _ | .nilfn, _ | .nilIface, _ | .nilmap, _ => by simp only [frz, okM]
 | .ptr _ _, h | .eptr _ _ _ _, h | .iptr _ _, h | .fn _ _, h | .mref _, h | .when _ _, h | .sc, h | .undef, h => by simp [frz] at h
theorem zu9 {hp : Nat -> Option Blk} : ∀ l : List D, (frzs hp l).2 = true -> okML new1 (frzs hp l).1 = true
 | [], _ => by simp only [frzs, okML]
 | d :: ds, h => by
  simp only [frzs, za0] at h
  simp only [frzs, okML, zwz d h.1, zu9 ds h.2, Bool.and_self]
end
theorem ze7 {P : Program} {K : FuncId} {args : List D} {r r' : D} {eff : List (Nat × Option Blk)} {nw : Nat × Nat} (hr : frz (effH (fun _ => none) eff) r = (r', true)) (h : zby P K args [] r eff nw) : zb9 P K args r' := by
 refine ⟨h.1, fun w vs hG hvs => ?_⟩
 let g : Gh := ⟨fun _ => none, fun _ => True, fun m => if m = 1 then some (fun x => w.heap.size <= x) else if m = 2 then some (fun x => x < w.heap.size) else none⟩
 have hM : Mem w.heap.size w g (fun _ => none) (fun _ => true) := by
  refine ⟨(fun id blk h => by cases h), fun id id' b o o' h => absurd rfl h, fun id _ => ⟨rfl, rfl⟩, ⟨fun _ _ => trivial, ⟨_, rfl, fun x hx => ⟨hx, trivial⟩, fun x hx => hx⟩, ⟨_, rfl, fun x hx => ⟨hx, trivial⟩⟩, ?_, fun b hb => by obtain ⟨id, o, h1, _⟩ := hb; exact absurd rfl h1⟩, ⟨za4 _, hG⟩⟩
  intro m Zm hm hz
  have : g.zn m = none := by
   simp only [g]
   rw [if_neg (by omega), if_neg (by omega)]
  rw [this] at hz; cases hz
 have hle : Cx.Le (cx0 w w.heap.size) (cx w g fun _ => none) := by
  refine ⟨fun m _ Z' hZ' => ⟨Z', hZ', fun b _ k2 k3 => ⟨?_, k2, .refl k3⟩⟩, fun _ _ => rfl, fun _ => rfl, (fun x => by cases x), (fun x => by cases x)⟩
  rintro ⟨id, o, h1, _⟩
  exact h1 rfl
 refine (h.2 w.heap.size w g (fun _ => none) (fun _ => true) vs hM (fun id b h => by cases h) (fun _ _ _ => rfl) (zgv hle _ _ hvs)).mono ?_
 rintro ee w' ⟨v, g', he, ha⟩
 have h1 : r' = (frz (effH (fun _ => none) eff) r).1 := by rw [hr]
 have h2 : (frz (effH (fun _ => none) eff) r).2 = true := by rw [hr]
 refine ⟨v, he, ha.keep.mono ?_, by rw [h1]; exact zwz _ h2, ?_⟩
 rintro i _ ⟨id, o, h1, _⟩
 exact h1 rfl
 rw [h1]
 refine ya1y ha.mem.hd ?_ (fun b hb => ?_) r v ha.res h2
 rw [ha.gz.2]; rfl
 rcases ha.own b hb with h | ⟨id, o, h, _⟩
 exact h
 exact absurd rfl h
end Go.Tm
namespace Go.Tm
open Go.RowKit Go.WideShapes
def Goes (lim n0 : Nat) (st s : St) : Prop :=
 ∀ (E : En) (n : Nat) (F : FrS) (a : Act) (w : World) (g : Gh), (∀ id, n0 <= id -> id < lim -> E.nu0 id = true) -> F.on lim st -> Rel E n F a w g -> ∃ F' g', F'.on lim s /\ Rel E n F' a w g'
theorem Goes.mv {lim n0 : Nat} {st s : St} (V H : List Nat) (ps : List (Nat × Nat)) (h1 : (⟨mvV (mvF ps) (zcw V st.vars), mvH (mvF ps) (zcw H st.heap), s.nx⟩ : St) = s) (h2 : n0 <= s.nx) (h3 : s.nx <= lim) (h4 : mvOk ps n0 s.nx (idsV (zcw V st.vars) ++ idsH (zcw H st.heap)) = true) : Goes lim n0 st s :=
 fun _ _ _ _ _ _ hE hF hR => hR.mvTo hF hE ⟨h1, h2, h3, h4⟩
theorem Ok.goes {P : Program} {lim n : Nat} {c : Code} {st s : St} {Q : Exit -> St -> Prop} (h : Goes lim st.nx st s) (k : Ok P lim n c s Q) : Ok P lim n c st Q := by
 intro E F a w g hF hR
 obtain ⟨F', g', hF', hR'⟩ := h E n F a w g (fun id h1 h2 => hR.nu id (hF.2.2 id h1 h2)) hF hR
 exact k E F' a w g' hF' hR'
def cutQ {ι : Type} (lim n0 : Nat) (M : ι -> St) (Pr : ι -> Prop) (Q : Exit -> St -> Prop) : Exit -> St -> Prop := fun e s => match e with | .normal => ∃ j, Goes lim n0 s (M j) /\ Pr j | e => Q e s
theorem Ok.seqM {P : Program} {lim n : Nat} {x y : Code} {st : St} {Q : Exit -> St -> Prop} {ι : Type} (n0 : Nat) (M : ι -> St) (Pr : ι -> Prop) (hn : st.nx <= n0) (h1 : Ok P lim n x st (cutQ lim n0 M Pr Q)) (h2 : ∀ j, Pr j -> Ok P lim n y (M j) Q) : Ok P lim n (.seq x y) st Q := by
 intro E F a w g hF hR
 have hE : ∀ id, n0 <= id -> id < lim -> E.nu0 id = true := fun id h1 h2 => hR.nu id (hF.2.2 id (zar hn h1) h2)
 refine wp_seq (wp_mono (h1 E F a w g hF hR) ?_)
 rintro e a' w' ⟨st', F', g', hq, hF', hR'⟩
 cases e with
 | normal =>
  obtain ⟨j, h3, h4⟩ := hq
  obtain ⟨F2, g2, hF2, hR2⟩ := h3 E n F' a' w' g' hE hF' hR'
  exact h2 j h4 E F2 a' w' g2 hF2 hR2
 | exit id => exact ⟨st', F', g', hq, hF', hR'⟩
 | goto l => exact ⟨st', F', g', hq, hF', hR'⟩
 | ret => exact ⟨st', F', g', hq, hF', hR'⟩
 | panic ch => exact ⟨st', F', g', hq, hF', hR'⟩
 | outgrown => exact ⟨st', F', g', hq, hF', hR'⟩
def ya7x {ι : Type} (lim n0 : Nat) (S : ι -> St) (Pr : ι -> Prop) (μ : ι -> Nat) (i : ι) (Q : Exit -> St -> Prop) : Exit -> St -> Prop := fun e st' => match e with | .normal => ∃ j, Goes lim n0 st' (S j) /\ Pr j /\ μ j < μ i | e => Q e st'
theorem Ok.loopG {P : Program} {lim n : Nat} {c : Code} {st : St} {Q : Exit -> St -> Prop} {ι : Type} (n0 : Nat) (S : ι -> St) (Pr : ι -> Prop) (μ : ι -> Nat) (i0 : ι) (hn : st.nx <= n0) (hs : Goes lim n0 st (S i0)) (h0 : Pr i0)
  (round : ∀ i, Pr i -> Ok P lim n c (S i) (ya7x lim n0 S Pr μ i Q)) : Ok P lim n (.loop c) st Q := by
 intro E F a w g hF hR b k cs
 have hE : ∀ id, n0 <= id -> id < lim -> E.nu0 id = true := fun id h1 h2 => hR.nu id (hF.2.2 id (zar hn h1) h2)
 have key : ∀ m i, μ i = m -> Pr i -> ∀ (F : FrS) (a : Act) (w : World) (g : Gh), F.on lim (S i) -> Rel E n F a w g -> ∃ e a' w', (∃ st' F' g', Q e st' /\ F'.on lim st' /\ Rel E n F' a' w' g') /\ Arrives P (lone (b.at a (.code c :: .inLoop c :: k)) cs w) b k cs e a' w' := by
  intro m
  induction m using Nat.strongRecOn with
  | _ m ih =>
   intro i hm hI F a w g hF hR
   obtain ⟨e, a₁, w₁, ⟨st', F', g', hq, hF', hrel⟩, harr⟩ := round i hI E F a w g hF hR b (.inLoop c :: k) cs
   cases e with
   | normal =>
    obtain ⟨j, h1, h2, h3⟩ := hq
    obtain ⟨F2, g2, hF2, hR2⟩ := h1 E n F' a₁ w₁ g' hE hF' hrel
    obtain ⟨e₂, a₂, w₂, hq₂, harr₂⟩ := ih (μ j) (hm ▸ h3) j rfl h2 F2 a₁ w₁ g2 hF2 hR2
    exact ⟨e₂, a₂, w₂, hq₂, .of_steps (Steps.trans harr (.one step_inLoop)) harr₂⟩
   | exit id => exact ⟨_, a₁, w₁, ⟨st', F', g', hq, hF', hrel⟩, .pass (x := .inLoop c) rfl (fun _ _ => .inl (by simp)) harr⟩
   | goto l => exact ⟨_, a₁, w₁, ⟨st', F', g', hq, hF', hrel⟩, .pass (x := .inLoop c) rfl (fun _ _ => .inl (by simp)) harr⟩
   | ret => exact ⟨_, a₁, w₁, ⟨st', F', g', hq, hF', hrel⟩, .pass (x := .inLoop c) rfl (fun _ _ => .inl (by simp)) harr⟩
   | panic ch => exact ⟨_, a₁, w₁, ⟨st', F', g', hq, hF', hrel⟩, .pass (x := .inLoop c) rfl (fun _ _ => .inl (by simp)) harr⟩
   | outgrown => exact ⟨_, a₁, w₁, ⟨st', F', g', hq, hF', hrel⟩, .pass (x := .inLoop c) rfl (fun _ _ => .inl (by simp)) harr⟩
 obtain ⟨F1, g1, hF1, hR1⟩ := hs E n F a w g hE hF hR
 obtain ⟨e, a', w', hq, harr⟩ := key _ i0 rfl h0 F1 a w g1 hF1 hR1
 exact ⟨e, a', w', hq, .of_steps (.one step_loop) harr⟩
theorem za2 {α β : Type} {o : Option α} {f : α -> Option β} {r : β} (h : o.bind f = some r) : ∃ x, o = some x /\ f x = some r := by
 cases o with
 | none => cases h
 | some x => exact ⟨x, rfl, h⟩
theorem ya7y {α : Type} {c : Prop} [Decidable c] {a b r : α} (h : (if c then a else b) = r) (hc : c) : a = r := by rw [if_pos hc] at h; exact h
theorem ya8q {α : Type} {c : Prop} [Decidable c] {a b r : α} (h : (if c then a else b) = r) (hc : ¬ c) : b = r := by rw [if_neg hc] at h; exact h
theorem zb0 {α : Type} {c : Prop} [Decidable c] {a : Option α} {r : α} (h : (if c then a else none) = some r) : c /\ a = some r := by
 by_cases hc : c
 exact ⟨hc, ya7y h hc⟩
 rw [if_neg hc] at h; cases h
theorem zdw {i n : Nat} (h : i < n) (hn : (n : Int) <= 9223372036854775807) : wr .i64 ((i : Int) + 1) = ((i + 1 : Nat) : Int) :=
 zl8 _ _ (by show (-9223372036854775808 : Int) <= _; omega) (by show _ <= (9223372036854775807 : Int); omega)
theorem zex {α : Type} [Inhabited α] (f : α -> D) (l : List α) (i : Nat) (h : i < l.length) : nth (l.map f) i = f (l.getD i default) := by
 rw [zdk f l i h]; simp [h]
theorem zbx {α : Type} [Inhabited α] (f : α -> D) (l : List α) (i : Int) (h : 0 <= i /\ i < (l.length : Int)) : nth (l.map f) i.toNat = f (l.getD i.toNat default) :=
 zex f l _ (by omega)
theorem Ok.wf {P : Program} {lim n : Nat} {c : Code} {st : St} {Q : Exit -> St -> Prop} (t : Nat) (d : D) (hd : getR st.vars t = d) (h : Tm.wf d -> Ok P lim n c st Q) : Ok P lim n c st Q := by
 intro E F a w g hF hR
 refine h ?_ E F a w g hF hR
 have := hR.rd t
 rw [hF.1, hd] at this
 exact ya10 _ _ this
structure Pl {α : Type} (f : α -> D) : Prop where
 un : ∀ x, unf (f x) = f x
 ids : ∀ x, (f x).ids = []
 ok : ∀ q, q 0 = true -> ∀ x, okM q (f x) = true
theorem zlp (k : IntKind) : Pl (D.int k) := ⟨fun _ => rfl, fun _ => rfl, fun _ _ _ => rfl⟩
theorem ya7j : Pl (D.int .i64) := zlp _
section
variable {α : Type} {f : α -> D} (hf : Pl f)
include hf
theorem Pl.unfL (l : List α) : Tm.unfL (l.map f) = l.map f := by
 induction l with
 | nil => rfl
 | cons x l ih => simp only [zah, Tm.unfL, hf.un, ih]
theorem Pl.idsL (l : List α) : D.idsL (l.map f) = [] := by
 induction l with
 | nil => rfl
 | cons x l ih => simp only [zah, D.idsL, hf.ids, ih, zai]
theorem Pl.okML (q : Nat -> Bool) (h : q 0 = true) (l : List α) : Tm.okML q (l.map f) = true := by
 induction l with
 | nil => rfl
 | cons x l ih => simp only [zah, Tm.okML, hf.ok q h, ih, Bool.and_self]
theorem zfv {hp : Nat -> Option Blk} {id s e n : Nat} {oc : Option Nat} {l : List α} (h : hp id = some (.arr e s true (l.map f))) (hn : n = l.length) : lend hp (.ref id s 0 n oc) = (.imm s (l.map f) 4, true) := by
 subst hn
 have ht : (l.map f).take l.length = l.map f := List.take_of_length_le (by simp)
 simp only [lend, h, List.drop_zero, ht, hf.unfL, hf.okML low3 rfl, hf.idsL, List.length_map, Nat.zero_add, Nat.beq_refl, List.isEmpty_nil, Bool.and_true, Bool.true_and, za6, true_and]
 exact zam (za4 _)
end
theorem zeg {hp : Nat -> Option Blk} : zdm hp [] = ([], true) := rfl
theorem za8 {hp : Nat -> Option Blk} {d d' : D} {l l' : List D} (h : lend hp d = (d', true)) (hl : zdm hp l = (l', true)) : zdm hp (d :: l) = (d' :: l', true) := by
 simp only [zdm, h, hl, Bool.and_self]
theorem ya33 {C : Cx} {s c : Nat} {l : List D} {v : Value} (hc : c < 8) (h : rep C (.imm s l c) v) : rep C (.imm s l 4) v := by
 have e : c / 8 = 0 := by omega
 simp only [rep, e] at h ⊢
 obtain ⟨a, cap, rfl, h1, h2, _, _, _, h6, _, h7⟩ := h
 exact ⟨a, cap, rfl, h1, h2, by simp, by simp, by simp, h6, by simp, h7.imp_right fun h Z hZ => by obtain ⟨a0, e1, e2, e3, e4, e5, e6⟩ := h Z hZ; exact ⟨a0, e1, e2, e3, e4, e5.any (by decide), e6⟩⟩
theorem Wk.imm4 (s : Nat) (l : List D) {c : Nat} (hc : c < 8) : Wk (.imm s l c) (.imm s l 4) := fun _ _ h => ya33 hc h
def WkG (d d' : D) : Prop := ∀ (fr : Nat) (w : World) (g : Gh) (hp : Nat -> Option Blk) (nu : Nat -> Bool), Mem fr w g hp nu -> ∀ v, rep (cx w g hp) d v -> rep (cx w g hp) d' v
theorem WkG.of {d d' : D} (h : Wk d d') : WkG d d' := fun _ _ _ _ _ _ _ hv => h _ _ hv
theorem WkG.unk (id s off len : Nat) (oc : Option Nat) : WkG (.ref id s off len oc) (.ref id s off len (some uC)) := .of (Wk.unk _ _ _ _ _)
theorem WkG.nil4 (s s' c : Nat) (_hc : c / 8 = 0) : WkG (.imm s [] c) (.imm s' [] 4) := .of fun C v h => zwr rfl (by omega) C v h
theorem WkG.nil12 (s s' c : Nat) (_hc : c = 0 \/ c = 13) : WkG (.imm s [] c) (.imm s' [] 13) := by
 intro fr w g hp nu _ v h
 simp only [rep] at h ⊢
 obtain ⟨a, cap, rfl, h1, h2, _, _, _, h6, _⟩ := h
 exact ⟨a, cap, rfl, h1, h2, by simp, by simp, by simp, h6, fun _ => rfl, .inl trivial⟩
theorem WkG.own0 (id s s0 k : Nat) (hk : k % 8 <= 1) : WkG (.imm s0 [] k) (.ref id s 0 0 (some uC)) := by
 intro fr w g hp nu _ v h
 simp only [rep] at h ⊢
 obtain ⟨ad, cap, rfl, k1, k2, k3, k4, k5, k6, _⟩ := h
 have hc : cap = 0 := k5 (.inl hk)
 subst hc
 exact ⟨rfl, ad, 0, rfl, by simp, by simp, by simp, ⟨(fun c h hk => by cases h; cases hk), (fun h => by cases h)⟩, .inl rfl⟩
theorem WkG.new4 (s : Nat) (l : List D) {c : Nat} (hc : c / 8 = 1) : WkG (.imm s l c) (.imm s l 4) := by
 intro fr w g hp nu hM v h
 simp only [rep, hc] at h ⊢
 obtain ⟨a, cap, rfl, h1, h2, _, _, _, h6, _, h7⟩ := h
 refine ⟨a, cap, rfl, h1, h2, by simp, by simp, by simp, h6, by simp, ?_⟩
 rcases h7 with h7 | h7
 exact .inl h7
 right
 intro Z hZ
 obtain ⟨Z1, k1, k2, _⟩ := hM.zs.z1
 obtain ⟨a0, ha, hs, hm, hz, hb, he⟩ := h7 Z1 (by simpa [Cx.zone, cx] using k1)
 have : g.Z = Z := by simpa [Cx.zone, cx] using hZ
 subst this
 exact ⟨a0, ha, hs, hm, (k2 _ hz).2, hb.any (by decide), zfe (C := (cx w g hp).at Z1) (C' := (cx w g hp).at g.Z) (Cx.Le.inner (C := cx w g hp) (C' := cx w g hp) (fun _ _ => rfl) fun b e1 e2 _ => ⟨e1, (k2 b e2).2, rfl⟩) _ _ _ _ rfl he⟩
theorem Goes.wk {lim n0 : Nat} {st s : St} (t : Nat) (d d' : D) (hd : getR st.vars t = d) (hw : WkG d d') (h : Goes lim n0 ⟨put st.vars t d', st.heap, st.nx⟩ s) : Goes lim n0 st s := by
 intro E n F a w g hE hF hR
 obtain ⟨h1, h2, h3⟩ := hF
 refine h E n ⟨getR (put st.vars t d'), F.hp, F.nu⟩ a w g hE ⟨rfl, h2, h3⟩ ⟨hR.sz, hR.df, fun u => ?_, hR.mem, hR.base, hR.keep, hR.gz, hR.gs, hR.nu⟩
 have hu := hR.rd u
 show rep (cx w g F.hp) (getR (put st.vars t d') u) _
 rw [h1] at hu
 have hg : getR (put st.vars t d') u = if t = u then d' else getR st.vars u := by
  unfold getR
  rw [zgb]
  by_cases hh : t = u <;> simp [hh]
 rw [hg]
 by_cases htu : t = u
 subst htu
 rw [if_pos rfl]
 rw [hd] at hu
 exact hw _ _ _ _ _ hR.mem _ hu
 rw [if_neg htu]; exact hu
theorem Goes.new0 {lim n0 : Nat} {st s : St} (s' : Nat) (e : TypeId) (hn : st.nx < lim) (h : Goes lim n0 ⟨st.vars, put st.heap st.nx (.arr e s' true []), st.nx + 1⟩ s) : Goes lim n0 st s := by
 intro E n F a w g hE hF hR
 obtain ⟨h1, h2, h3⟩ := hF
 have hnu : F.nu st.nx = true := h3 st.nx (za4 _) hn
 obtain ⟨g1, _⟩ := Rel.made hR (m := st.nx) (blk := .arr e s' true []) (loc := none) (kl := none) (w' := w) hnu ((Keep.refl _ w).mono fun _ _ h => h) (by rintro b o h; cases h) (by
  intro C hC hle hrf hσ
  exact .inl ⟨rfl, hσ⟩)
 have hp : effH F.hp ((st.nx, some (.arr e s' true [])) :: kill none) = getL (put st.heap st.nx (.arr e s' true [])) := by
  funext i
  rw [zgb, h2]
  simp only [effH, kill, getL]
  by_cases hi : st.nx = i
  subst hi; simp
  simp [zdi hi, hi]
 refine h E n ⟨F.rd, (F.eff ((st.nx, some (.arr e s' true [])) :: kill none) (st.nx, st.nx + 1)).hp, (F.eff ((st.nx, some (.arr e s' true [])) :: kill none) (st.nx, st.nx + 1)).nu⟩ a w (setσ g st.nx none) hE ⟨h1, hp, fun id k1 k2 => ?_⟩ ⟨g1.sz, g1.df, g1.rd, g1.mem, g1.base, g1.keep, g1.gz, g1.gs, g1.nu⟩
 have k1 : st.nx + 1 <= id := k1
 have := h3 id (by omega) k2
 simp only [FrS.eff, effN, this, Bool.true_and, Bool.not_eq_true', Bool.and_eq_false_iff, decide_eq_false_iff_not]
 right
 omega
theorem Ok.ends {P : Program} {lim n : Nat} {c : Code} {st : St} {Q : Exit -> St -> Prop} (n0 : Nat) (hn : st.nx <= n0) (h : Ok P lim n c st fun e s => ∃ s', Goes lim n0 s s' /\ Q e s') : Ok P lim n c st Q := by
 intro E F a w g hF hR
 have hE : ∀ id, n0 <= id -> id < lim -> E.nu0 id = true := fun id h1 h2 => hR.nu id (hF.2.2 id (zar hn h1) h2)
 refine wp_mono (h E F a w g hF hR) ?_
 rintro e a' w' ⟨st', F', g', ⟨s', h1, h2⟩, hF', hR'⟩
 obtain ⟨F2, g2, hF2, hR2⟩ := h1 E n F' a' w' g' hE hF' hR'
 exact ⟨s', F2, g2, h2, hF2, hR2⟩
theorem zj9 {hp : Nat -> Option Blk} {l l' : List D} (h : zdm hp l = (l', true)) : lend hp (.agg l) = (.agg l', true) := by simp only [lend, h]
theorem zhr {hp : Nat -> Option Blk} {d d' : D} (h : lend hp d = (d', true)) (hd : match d with | .ptr _ _ => False | .fn _ _ => False | _ => True) : zf9 hp d = (d', true) := by
 cases d <;> first | exact hd.elim | (simp only [zf9]; exact h)
theorem zjx {hp : Nat -> Option Blk} {id off : Nat} {cells cells' : List D} (hb : hp id = some (.box cells)) (h : zdm hp cells = (cells', true)) : zf9 hp (.ptr id off) = (.iptr 0 (cells'.drop off), true) := by simp only [zf9, hb, h]
theorem zfw {hp : Nat -> Option Blk} {f : Fn} {l l' : List D} (h : zdb hp l = (l', true)) : zf9 hp (.fn f l) = (.fn f l', true) := by simp only [zf9, h]
theorem zap {hp : Nat -> Option Blk} : zdb hp [] = ([], true) := rfl
theorem za9 {hp : Nat -> Option Blk} {d d' : D} {l l' : List D} (h : zf9 hp d = (d', true)) (hl : zdb hp l = (l', true)) : zdb hp (d :: l) = (d' :: l', true) := by
 simp only [zdb, h, hl, Bool.and_self]
theorem ya5g {α : Type} {f : α -> D} (hf : Pl f) (hk : ∀ l : List α, okML new1 (l.map f) = true) {hp : Nat -> Option Blk} {id s e n : Nat} {oc : Option Nat} {l : List α} (h : hp id = some (.arr e s true (l.map f))) (hn : n = l.length) : frz hp (.ref id s 0 n oc) = (.imm s (l.map f) 13, true) := by
 subst hn
 have ht : (l.map f).take l.length = l.map f := List.take_of_length_le (by simp)
 simp only [frz, h, List.drop_zero, ht, hf.unfL, hk, hf.idsL, List.length_map, Nat.zero_add, Nat.beq_refl, List.isEmpty_nil, Bool.and_true, Bool.true_and, za6, true_and]
 exact zam (za4 _)
theorem zhs {hp : Nat -> Option Blk} {l l' : List D} (h : frzs hp l = (l', true)) : frz hp (.agg l) = (.agg l', true) := by simp only [frz, h]
theorem zmh {hp : Nat -> Option Blk} {l l' : List D} (h : frzs hp l = (l', true)) : frz hp (.tuple l) = (.tuple l', true) := by simp only [frz, h]
theorem zcd {hp : Nat -> Option Blk} : frzs hp [] = ([], true) := rfl
theorem zaa {hp : Nat -> Option Blk} {d d' : D} {l l' : List D} (h : frz hp d = (d', true)) (hl : frzs hp l = (l', true)) : frzs hp (d :: l) = (d' :: l', true) := by
 simp only [frzs, h, hl, Bool.and_self]
structure Pl0 {α : Type} (f : α -> D) : Prop extends Pl f where
 no : ∀ q x, okM q (f x) = true
theorem Pl0.okML {α : Type} {f : α -> D} (hf : Pl0 f) (q : Nat -> Bool) (l : List α) : Tm.okML q (l.map f) = true := by
 induction l with
 | nil => rfl
 | cons x l ih => simp only [zah, Tm.okML, hf.no q, ih, Bool.and_self]
theorem zd1 : Pl0 (D.int .i64) := ⟨ya7j, fun _ _ => rfl⟩
theorem zcm {α : Type} {f : α -> D} (hf : Pl0 f) {hp : Nat -> Option Blk} {id s e n : Nat} {oc : Option Nat} {l : List α} (h : hp id = some (.arr e s true (l.map f))) (hn : n = l.length) : frz hp (.ref id s 0 n oc) = (.imm s (l.map f) 13, true) := ya5g hf.toPl (hf.okML new1) h hn
theorem ze4 {α : Type} {f : α -> D} (hf : Pl0 f) (e s : Nat) (l : List α) : newB (some (.arr e s true (l.map f))) = true := by simp only [newB, hf.okML, Bool.and_self]
theorem zc4 {nw : Nat × Nat} {i : Nat} {b : Option Blk} {r : List (Nat × Option Blk)} (h1 : Nat.ble nw.1 i = true) (h2 : Nat.blt i nw.2 = true) (h3 : newB b = true) (h4 : newE nw r = true) : newE nw ((i, b) :: r) = true := by simp only [newE, h1, h2, h3, h4, Bool.and_self]
theorem ze8 {nw : Nat × Nat} : newE nw [] = true := rfl
theorem zdt {P : Program} {K : FuncId} {args : List D} {r : D} {eff : List (Nat × Option Blk)} {m : Nat} (n : Nat) (hn : m <= n) (h : zby P K args [] r eff (0, m)) : zby P K (D.renL (bsw 0 n m) args) [] (r.ren (bsw 0 n m)) (renE (bsw 0 n m) eff) (n, n + m) := by
 refine zow (π := bsw 0 n m) (zxk (by omega)) (n, n + m) (fun id h1 h2 => ?_) h
 have h2 : id < m := h2
 have e : (Nat.ble 0 id && Nat.blt id (0 + m)) = true := by
  simp only [za0]
  exact ⟨zam (Nat.zero_le _), zam (by omega)⟩
 simp only [bsw, e, cond_true]
 omega
theorem Ok.nil4 {P : Program} {lim n : Nat} {c : Code} {st : St} {Q : Exit -> St -> Prop} (t s : Nat) (l : List D) (hd : getR st.vars t = .imm s l 4) (h1 : Ok P lim n c ⟨put st.vars t (.imm s l 2), st.heap, st.nx⟩ Q) (h2 : l = [] -> Ok P lim n c ⟨put st.vars t (.imm s l 0), st.heap, st.nx⟩ Q) : Ok P lim n c st Q := by
 intro E F a w g hF hR
 have hr := hR.rd t
 rw [hF.1, hd] at hr
 have key : ∀ d', rep (cx w g F.hp) d' (a.eval (.tmp t)) -> Rel E n ⟨getR (put st.vars t d'), F.hp, F.nu⟩ a w g := by
  intro d' hd'
  refine ⟨hR.sz, hR.df, fun u => ?_, hR.mem, hR.base, hR.keep, hR.gz, hR.gs, hR.nu⟩
  have hu := hR.rd u
  show rep (cx w g F.hp) (getR (put st.vars t d') u) _
  rw [hF.1] at hu
  have hg : getR (put st.vars t d') u = if t = u then d' else getR st.vars u := by
   unfold getR
   rw [zgb]
   by_cases hh : t = u <;> simp [hh]
  rw [hg]
  by_cases htu : t = u
  subst htu
  rw [if_pos rfl]
  exact hd'
  rw [if_neg htu]; exact hu
 rcases zu2 _ _ hr with h | ⟨hl, h⟩
 exact h1 E ⟨getR (put st.vars t (.imm s l 2)), F.hp, F.nu⟩ a w g ⟨rfl, hF.2.1, hF.2.2⟩ (key _ h)
 exact h2 hl E ⟨getR (put st.vars t (.imm s l 0)), F.hp, F.nu⟩ a w g ⟨rfl, hF.2.1, hF.2.2⟩ (key _ h)
theorem zdx {i n : Nat} (h : i < n) (hn : (n : Int) <= 9223372036854775807) : wr .i64 ((i : Int) - 1) = (i : Int) - 1 :=
 zl8 _ _ (by show (-9223372036854775808 : Int) <= _; omega) (by show _ <= (9223372036854775807 : Int); omega)
theorem zzf (i : Nat) : ((i : Int) - 1).toNat = i - 1 := by omega
theorem zvj {α : Type} [Inhabited α] (f : α -> D) (l : List α) (n : Nat) : nth (l.map f) n = f (l.getD n default) \/ nth (l.map f) n = .undef := by
 by_cases h : n < l.length
 exact .inl (zex f l n h)
 right
 unfold nth
 simp [Nat.le_of_not_lt h]
mutual
theorem zm5 (f : Nat -> Nat) : ∀ d : D, d.ids = [] -> d.ren f = d
 | .agg l, h => by simp only [D.ren, zko f l (by simpa only [D.ids] using h)]
 | .tuple l, h => by simp only [D.ren, zko f l (by simpa only [D.ids] using h)]
 | .fn g l, h => by simp only [D.ren, zko f l (by simpa only [D.ids] using h)]
 | .iface t d, h => by simp only [D.ren, zm5 f d (by simpa only [D.ids] using h)]
 | .when c d, h => by simp only [D.ren, zm5 f d (by simpa only [D.ids] using h)]
 | .ref _ _ _ _ _, h | .ptr _ _, h | .eptr _ _ _ _, h | .mref _, h => by simp [D.ids] at h
 | .bool _, _ | .int _ _, _ | .str _, _ | .imm _ _ _, _ | .iptr _ _, _ | .nilptr, _ | .nilfn, _ | .nilIface, _ | .nilmap, _ | .sc, _ | .undef, _ => by simp only [D.ren]
theorem zko (f : Nat -> Nat) : ∀ l : List D, D.idsL l = [] -> D.renL f l = l
 | [], _ => by simp only [D.renL]
 | d :: ds, h => by
  simp only [D.idsL, List.append_eq_nil_iff] at h
  simp only [D.renL, zm5 f d h.1, zko f ds h.2]
end
theorem zb1 {l : List D} (h : ∀ hp, zdm hp l = (l, true)) : D.idsL l = [] := by
 have := (zi9 (hp := fun _ => none) l (by rw [h])).2.1
 rwa [h] at this
theorem zb2 {l : List D} (h : ∀ hp, zdm hp l = (l, true)) (f : Nat -> Nat) : D.renL f l = l := zko f l (zb1 h)
theorem zmv {α : Type} (l : List α) : l = [] \/ ∃ y ys, l = y :: ys := by
 cases l with
 | nil => exact .inl rfl
 | cons y ys => exact .inr ⟨y, ys, rfl⟩
theorem zxn {hp : Nat -> Option Blk} {nid el esz eby s c : Nat} {xs : List D} {px vx : Bool} (h : xs = []) : zbv hp nid el esz eby (.imm s [] c) xs px vx = some ⟨.imm esz [] c, vx, [], (0, 0), []⟩ := by subst h; rfl
theorem zwa {hp : Nat -> Option Blk} {nid el esz eby s c : Nat} {xs : List D} {px vx : Bool} (h : xs ≠ []) : zbv hp nid el esz eby (.imm s [] c) xs px vx = some ⟨.ref nid esz 0 xs.length none, vx && (Nat.ble (c % 8) 1 || Nat.beq (c % 8) 3) && decide (xs.length * eby <= 140737488355328), [(nid, some (.arr el esz px xs))], (nid, nid + 1), []⟩ := by
 cases xs with
 | nil => exact absurd rfl h
 | cons x xs => rfl
theorem zup {α β : Type} (f : α -> β) (l : List α) (i : Nat) : (l.map f).drop i = (l.drop i).map f := List.map_drop.symm
theorem zqk {α β : Type} (f : α -> β) (l : List α) (i : Nat) : (l.map f).take i = (l.take i).map f := List.map_take.symm
theorem zv4 {α β : Type} (f : α -> β) (l : List α) : (l.map f).take l.length = l.map f := by rw [zqk, List.take_length]
theorem zqs {P : Program} {K : FuncId} {args args' : List D} {H : List (Nat × Blk)} {r : D} {eff : List (Nat × Option Blk)} {nw : Nat × Nat} (h : WkL args args') (hK : zby P K args' H r eff nw) : zby P K args H r eff nw :=
 ⟨hK.1, fun fr w g hp nu vs a1 a2 a3 hvs => hK.2 fr w g hp nu vs a1 a2 a3 (h _ _ hvs)⟩
theorem zjm {ops : Array Oper} {fps : Nat -> FP} (h : ((List.range ops.size).all fun i => (List.range i).all fun j => anc ops ops.size i j || okFP (fps j) (fps i)) = true) : zk6 ops fps = true := by
 unfold zk6
 rw [<- h]
 congr 1
 funext i
 congr 1
 funext j
 rw [Bool.or_comm]
end Go.Tm
namespace Go.Tm
structure Seat (P : Program) (tab : Nat -> TI) : Prop where
 tm : zgy P tab
 mixed : P.follows .mixedOrders = true
section
variable {P : Program} {tab : Nat -> TI} {lim n : Nat}
theorem Ok.pl {id : Nat} {ops : Array Oper} {st st' : St} {vc : Bool} {acc : List FP} {Q : Exit -> St -> Prop} (S : Seat P tab) (V : List Nat) (hQ : Q .normal st') (hok : zj0 n ops false = true := by decide +kernel)
  (h : zjf (runE tab true false ops.toList ops.toList ⟨keep V st.vars, st.heap, st.nx⟩ true []) st' vc acc [] := by intro q hq; simp only [go_sem, Nat.reduceSub, Int.reduceEq, Nat.reduceLT, Nat.reduceDiv, Nat.reduceAdd, Nat.reduceBEq, Nat.reduceLeDiff, reduceCtorEq, Nat.reduceEqDiff, Nat.reduceMod, Nat.reduceMul, zbv]; exact hq)
  (hv : vc = true := by first | rfl | (simp only [go_sem, Nat.reduceLeDiff]; done) | (simp only [go_sem, Nat.reduceLeDiff]; rfl) | (simp; done) | (simp [oneD] <;> omega) | (simp_all; done) | (simp_all [oneD] <;> omega)) (hlim : st'.nx <= lim := by first | exact za4 _ | exact lb rfl | (dsimp only; omega) | (simp <;> omega)) : Ok P lim n (.region id ops false) st Q :=
 .plain S.tm S.mixed V hok h hv hlim hQ
theorem Ok.plx {X : Prop} {id : Nat} {ops : Array Oper} {st st' : St} {vc : Bool} {acc : List FP} {Q : Exit -> St -> Prop} (S : Seat P tab) (x : X) (V : List Nat) (hQ : Q .normal st') (hok : zj0 n ops false = true := by decide +kernel)
  (h : X -> zjf (runE tab true false ops.toList ops.toList ⟨keep V st.vars, st.heap, st.nx⟩ true []) st' vc acc [] := by intro x q hq; simp only [go_sem, Nat.reduceSub, Int.reduceEq, Nat.reduceLT, Nat.reduceDiv, Nat.reduceAdd, Nat.reduceBEq, Nat.reduceLeDiff, reduceCtorEq, Nat.reduceEqDiff, Nat.reduceMod, Nat.reduceMul, zbv, x]; exact hq)
  (hv : vc = true := by first | rfl | (simp only [go_sem, Nat.reduceLeDiff]; done) | (simp only [go_sem, Nat.reduceLeDiff]; rfl) | (simp; done) | (simp [oneD] <;> omega) | (simp_all; done) | (simp_all [oneD] <;> omega)) (hlim : st'.nx <= lim := by first | exact za4 _ | exact lb rfl | (dsimp only; omega) | (simp <;> omega)) : Ok P lim n (.region id ops false) st Q :=
 .plain S.tm S.mixed V hok (h x) hv hlim hQ
theorem Ok.dr {id : Nat} {ops : Array Oper} {st st' : St} {vc : Bool} {acc : List FP} {Q : Exit -> St -> Prop} (S : Seat P tab) (V : List Nat) (hQ : Q .normal st') (hok : zj0 n ops true = true := by decide +kernel)
  (h : zjf (runE tab true true ops.toList ops.toList ⟨keep V st.vars, st.heap, st.nx⟩ true []) st' vc acc [] := by intro q hq; simp only [go_sem, Nat.reduceSub, Int.reduceEq, Nat.reduceLT, Nat.reduceDiv, Nat.reduceAdd, Nat.reduceBEq, Nat.reduceLeDiff, reduceCtorEq, Nat.reduceEqDiff, Nat.reduceMod, Nat.reduceMul, zbv]; exact hq)
  (hs : zk6 ops (fun i => (acc[i]?).getD zkc) = true := by exact zjm (by kernel_rfl))
  (hv : vc = true := by first | rfl | (simp only [go_sem, Nat.reduceLeDiff]; done) | (simp only [go_sem, Nat.reduceLeDiff]; rfl) | (simp; done) | (simp [oneD] <;> omega) | (simp_all; done) | (simp_all [oneD] <;> omega)) (hlim : st'.nx <= lim := by first | exact za4 _ | exact lb rfl | (dsimp only; omega) | (simp <;> omega)) : Ok P lim n (.region id ops true) st Q :=
 .drawn S.tm S.mixed V hok h hs hv hlim hQ
theorem Ok.drx {X : Prop} {id : Nat} {ops : Array Oper} {st st' : St} {vc : Bool} {acc : List FP} {Q : Exit -> St -> Prop} (S : Seat P tab) (x : X) (V : List Nat) (hQ : Q .normal st') (hok : zj0 n ops true = true := by decide +kernel)
  (h : X -> zjf (runE tab true true ops.toList ops.toList ⟨keep V st.vars, st.heap, st.nx⟩ true []) st' vc acc [] := by intro x q hq; simp only [go_sem, Nat.reduceSub, Int.reduceEq, Nat.reduceLT, Nat.reduceDiv, Nat.reduceAdd, Nat.reduceBEq, Nat.reduceLeDiff, reduceCtorEq, Nat.reduceEqDiff, Nat.reduceMod, Nat.reduceMul, zbv, x]; exact hq)
  (hs : zk6 ops (fun i => (acc[i]?).getD zkc) = true := by exact zjm (by kernel_rfl))
  (hv : vc = true := by first | rfl | (simp only [go_sem, Nat.reduceLeDiff]; done) | (simp only [go_sem, Nat.reduceLeDiff]; rfl) | (simp; done) | (simp [oneD] <;> omega) | (simp_all; done) | (simp_all [oneD] <;> omega)) (hlim : st'.nx <= lim := by first | exact za4 _ | exact lb rfl | (dsimp only; omega) | (simp <;> omega)) : Ok P lim n (.region id ops true) st Q :=
 .drawn S.tm S.mixed V hok (h x) hs hv hlim hQ
theorem Ok.rg {id : Nat} {ops : Array Oper} {draw : Bool} {st : St} {Q : Exit -> St -> Prop} (S : Seat P tab) (V : List Nat) (h : RegA P tab true lim ops draw ⟨keep V st.vars, st.heap, st.nx⟩ (Q .normal)) (hok : zj0 n ops draw = true := by decide +kernel) : Ok P lim n (.region id ops draw) st Q := Ok.region S.tm S.mixed V hok h
theorem WRun.rn {ops : Array Oper} (k : Nat) {l l' : List Oper} {st st' : St} {acc acc' : List FP} {Q : St -> List FP -> Prop} {vc : Bool}
  (hQ : WRun P tab true lim ops l' st' acc' Q) (hdr : false = true \/ ∀ st a b, Q st a -> Q st b := by exact .inr fun _ _ _ h => ⟨nofun, h.2⟩)
  (h : zjf (runK tab true false ops.toList k l st true acc) st' vc acc' l' := by intro q hq; simp only [go_sem, Nat.reduceSub, Int.reduceEq, Nat.reduceLT, Nat.reduceDiv, Nat.reduceAdd, Nat.reduceBEq, Nat.reduceLeDiff, reduceCtorEq, Nat.reduceEqDiff, Nat.reduceMod, Nat.reduceMul, zbv]; exact hq) (hv : vc = true := by first | rfl | (simp only [go_sem, Nat.reduceLeDiff]; done) | (simp only [go_sem, Nat.reduceLeDiff]; rfl) | (simp; done) | (simp [oneD] <;> omega) | (simp_all; done) | (simp_all [oneD] <;> omega)) (hlim : st'.nx <= lim := by first | exact za4 _ | exact lb rfl | (dsimp only; omega) | (simp <;> omega)) : WRun P tab true lim ops l st acc Q :=
 WRun.EN k h.eq hdr hv hlim hQ
theorem WRun.rnx {X : Prop} {ops : Array Oper} (k : Nat) {l l' : List Oper} {st st' : St} {acc acc' : List FP} {Q : St -> List FP -> Prop} {vc : Bool} (x : X)
  (hQ : WRun P tab true lim ops l' st' acc' Q) (hdr : false = true \/ ∀ st a b, Q st a -> Q st b := by exact .inr fun _ _ _ h => ⟨nofun, h.2⟩)
  (h : X -> zjf (runK tab true false ops.toList k l st true acc) st' vc acc' l' := by intro x q hq; simp only [go_sem, Nat.reduceSub, Int.reduceEq, Nat.reduceLT, Nat.reduceDiv, Nat.reduceAdd, Nat.reduceBEq, Nat.reduceLeDiff, reduceCtorEq, Nat.reduceEqDiff, Nat.reduceMod, Nat.reduceMul, zbv, x]; exact hq) (hv : vc = true := by first | rfl | (simp only [go_sem, Nat.reduceLeDiff]; done) | (simp only [go_sem, Nat.reduceLeDiff]; rfl) | (simp; done) | (simp [oneD] <;> omega) | (simp_all; done) | (simp_all [oneD] <;> omega)) (hlim : st'.nx <= lim := by first | exact za4 _ | exact lb rfl | (dsimp only; omega) | (simp <;> omega)) : WRun P tab true lim ops l st acc Q :=
 WRun.EN k (h x).eq hdr hv hlim hQ
theorem WRun.rd {ops : Array Oper} (k : Nat) {l l' : List Oper} {st st' : St} {acc acc' : List FP} {Q : St -> List FP -> Prop} {vc : Bool}
  (hQ : WRun P tab true lim ops l' st' acc' Q)
  (h : zjf (runK tab true true ops.toList k l st true acc) st' vc acc' l' := by intro q hq; simp only [go_sem, Nat.reduceSub, Int.reduceEq, Nat.reduceLT, Nat.reduceDiv, Nat.reduceAdd, Nat.reduceBEq, Nat.reduceLeDiff, reduceCtorEq, Nat.reduceEqDiff, Nat.reduceMod, Nat.reduceMul, zbv]; exact hq) (hv : vc = true := by first | rfl | (simp only [go_sem, Nat.reduceLeDiff]; done) | (simp only [go_sem, Nat.reduceLeDiff]; rfl) | (simp; done) | (simp [oneD] <;> omega) | (simp_all; done) | (simp_all [oneD] <;> omega)) (hlim : st'.nx <= lim := by first | exact za4 _ | exact lb rfl | (dsimp only; omega) | (simp <;> omega)) : WRun P tab true lim ops l st acc Q :=
 WRun.EN k h.eq (.inl rfl) hv hlim hQ
theorem WRun.rdx {X : Prop} {ops : Array Oper} (k : Nat) {l l' : List Oper} {st st' : St} {acc acc' : List FP} {Q : St -> List FP -> Prop} {vc : Bool} (x : X)
  (hQ : WRun P tab true lim ops l' st' acc' Q)
  (h : X -> zjf (runK tab true true ops.toList k l st true acc) st' vc acc' l' := by intro x q hq; simp only [go_sem, Nat.reduceSub, Int.reduceEq, Nat.reduceLT, Nat.reduceDiv, Nat.reduceAdd, Nat.reduceBEq, Nat.reduceLeDiff, reduceCtorEq, Nat.reduceEqDiff, Nat.reduceMod, Nat.reduceMul, zbv, x]; exact hq) (hv : vc = true := by first | rfl | (simp only [go_sem, Nat.reduceLeDiff]; done) | (simp only [go_sem, Nat.reduceLeDiff]; rfl) | (simp; done) | (simp [oneD] <;> omega) | (simp_all; done) | (simp_all [oneD] <;> omega)) (hlim : st'.nx <= lim := by first | exact za4 _ | exact lb rfl | (dsimp only; omega) | (simp <;> omega)) : WRun P tab true lim ops l st acc Q :=
 WRun.EN k (h x).eq (.inl rfl) hv hlim hQ
end
theorem zaf {α : Type} {b c : Prop} [Decidable c] {x y r : α} (h : (if c then x else y) = r) (hb : b) (hc : b -> c := by intro hb; first | exact hb | (simp at hb ⊢; done) | (simp at hb ⊢; exact hb) | (simp at hb ⊢; omega) | (simp at hb ⊢; grind) | grind) : x = r := ya7y h (hc hb)
theorem zao {α : Type} {b c : Prop} [Decidable c] {x y r : α} (h : (if c then x else y) = r) (hb : b) (hc : b -> ¬ c := by intro hb; first | exact hb | (simp at hb ⊢; done) | (simp at hb ⊢; exact hb) | (simp at hb ⊢; omega) | (simp at hb ⊢; grind) | grind) : y = r := ya8q h (hc hb)
theorem gd {b p : Prop} (hg : b) (h : b -> p := by intro hg; first | (simp only [opds, opd, ev, zvi, getR, getL, Nat.beq, cond_true, cond_false, Bool.not_true, Bool.false_or, Bool.and_true, Bool.true_and, za6, true_and]; done) | (simp only [opds, opd, ev, zvi, getR, getL, Nat.beq, cond_true, cond_false, Bool.not_true, Bool.false_or, Bool.and_true, Bool.true_and, za6, true_and]; first | exact hg | (simp at hg ⊢; done) | (simp at hg ⊢; exact hg) | (simp at hg ⊢; grind)) | rfl) : p := h hg
theorem rsi0 {tab : Nat -> TI} {st : St} {l : List ResultVar} {r : D} (h : zpv tab st l r := by simp only [zpv, resL, resD, resT, go_sem, Nat.reduceSub, Int.reduceEq, Nat.reduceLT, Nat.reduceDiv, Nat.reduceAdd, Nat.reduceBEq, Nat.reduceLeDiff, reduceCtorEq, Nat.reduceEqDiff, Nat.reduceMod, Nat.reduceMul, zbv]) : zpv tab st l r := h
theorem rsi {tab : Nat -> TI} {st : St} {l : List ResultVar} {r : D} (h : zpv tab st l r := by simp only [zpv, resL, resD, resT, go_sem, Nat.reduceSub, Int.reduceEq, Nat.reduceLT, Nat.reduceDiv, Nat.reduceAdd, Nat.reduceBEq, Nat.reduceLeDiff, reduceCtorEq, Nat.reduceEqDiff, Nat.reduceMod, Nat.reduceMul, zbv]) : ∃ ds, resL tab st l = some (ds, true) /\ resT ds = r := h.to
theorem Goes.m {lim n0 : Nat} {st s : St} (V H : List Nat) (ps : List (Nat × Nat)) (h1 : (⟨mvV (mvF ps) (zcw V st.vars), mvH (mvF ps) (zcw H st.heap), s.nx⟩ : St) = s := by first | with_reducible rfl | (simp only [go_sem, Nat.reduceBEq, Nat.reduceAdd]; done) | (simp only [go_sem, Nat.reduceBEq, Nat.reduceAdd]; with_reducible rfl) | rfl | (simp only [go_sem, Nat.reduceBEq, Nat.reduceAdd]; rfl))
  (h2 : n0 <= s.nx := by exact lb rfl) (h3 : s.nx <= lim := by exact lb rfl) (h4 : mvOk ps n0 s.nx (idsV (zcw V st.vars) ++ idsH (zcw H st.heap)) = true := by kernel_rfl) : Goes lim n0 st s := .mv V H ps h1 h2 h3 h4
theorem Goes.mx {X : Prop} {lim n0 : Nat} {st s : St} (x : X) (V H : List Nat) (ps : List (Nat × Nat)) (h1 : X -> (⟨mvV (mvF ps) (zcw V st.vars), mvH (mvF ps) (zcw H st.heap), s.nx⟩ : St) = s := by intro x; first | with_reducible rfl | (simp only [x, go_sem, Nat.reduceBEq, Nat.reduceAdd, Bool.false_and, Bool.true_or, Bool.and_false]; done) | (simp only [x, go_sem, Nat.reduceBEq, Nat.reduceAdd, Bool.false_and, Bool.true_or, Bool.and_false]; with_reducible rfl) | rfl | (simp only [x, go_sem, Nat.reduceBEq, Nat.reduceAdd, Bool.false_and, Bool.true_or, Bool.and_false]; rfl))
  (h2 : n0 <= s.nx := by exact lb rfl) (h3 : s.nx <= lim := by exact lb rfl) (h4 : mvOk ps n0 s.nx (idsV (zcw V st.vars) ++ idsH (zcw H st.heap)) = true := by kernel_rfl) : Goes lim n0 st s := .mv V H ps (h1 x) h2 h3 h4
theorem apn {xs : List D} (h : xs = []) : ∀ (hp : Nat -> Option Blk) (nid el esz eby s c : Nat) (px vx : Bool), zbv hp nid el esz eby (.imm s [] c) xs px vx = some ⟨.imm esz [] c, vx, [], (0, 0), []⟩ := fun _ _ _ _ _ _ _ _ _ => zxn h
theorem apc {xs : List D} (h : xs ≠ []) : ∀ (hp : Nat -> Option Blk) (nid el esz eby s c : Nat) (px vx : Bool), zbv hp nid el esz eby (.imm s [] c) xs px vx = some ⟨.ref nid esz 0 xs.length none, vx && (Nat.ble (c % 8) 1 || Nat.beq (c % 8) 3) && decide (xs.length * eby <= 140737488355328), [(nid, some (.arr el esz px xs))], (nid, nid + 1), []⟩ := fun _ _ _ _ _ _ _ _ _ => zwa h
section
variable {P : Program} {tab : Nat -> TI} {lim n : Nat}
theorem Ok.pp {id : Nat} {ops : Array Oper} {st st' : St} {vc : Bool} {acc : List FP} {Q : Exit -> St -> Prop} (S : Seat P tab) (V : List Nat)
  (h : zjf (runE tab true false ops.toList ops.toList ⟨keep V st.vars, st.heap, st.nx⟩ true []) st' vc acc []) (hQ : Q .normal st') (hok : zj0 n ops false = true := by decide +kernel)
  (hv : vc = true := by first | rfl | (simp only [go_sem, Nat.reduceLeDiff]; done) | (simp only [go_sem, Nat.reduceLeDiff]; rfl) | (simp; done) | (simp [oneD] <;> omega) | (simp_all; done) | (simp_all [oneD] <;> omega)) (hlim : st'.nx <= lim := by first | exact za4 _ | exact lb rfl | (dsimp only; omega) | (simp <;> omega)) : Ok P lim n (.region id ops false) st Q :=
 .plain S.tm S.mixed V hok h hv hlim hQ
theorem Ok.px {X : Prop} {id : Nat} {ops : Array Oper} {st st' : St} {vc : Bool} {acc : List FP} {Q : Exit -> St -> Prop} (S : Seat P tab) (x : X) (V : List Nat) (hQ : Q .normal st') (hok : zj0 n ops false = true := by decide +kernel)
  (h : X -> zjf (runE tab true false ops.toList ops.toList ⟨keep V st.vars, st.heap, st.nx⟩ true []) st' vc acc [] := by intro x q hq; simp only [go_sem, Nat.reduceSub, Int.reduceEq, Nat.reduceLT, Nat.reduceDiv, Nat.reduceAdd, Nat.reduceBEq, Nat.reduceLeDiff, reduceCtorEq, Nat.reduceEqDiff, Nat.reduceMod, Nat.reduceMul, x]; exact hq)
  (hv : vc = true := by first | rfl | (simp only [go_sem, Nat.reduceLeDiff]; done) | (simp only [go_sem, Nat.reduceLeDiff]; rfl) | (simp; done) | (simp [oneD] <;> omega) | (simp_all; done) | (simp_all [oneD] <;> omega)) (hlim : st'.nx <= lim := by first | exact za4 _ | exact lb rfl | (dsimp only; omega) | (simp <;> omega)) : Ok P lim n (.region id ops false) st Q :=
 .plain S.tm S.mixed V hok (h x) hv hlim hQ
theorem Ok.dx {X : Prop} {id : Nat} {ops : Array Oper} {st st' : St} {vc : Bool} {acc : List FP} {Q : Exit -> St -> Prop} (S : Seat P tab) (x : X) (V : List Nat) (hQ : Q .normal st') (hok : zj0 n ops true = true := by decide +kernel)
  (h : X -> zjf (runE tab true true ops.toList ops.toList ⟨keep V st.vars, st.heap, st.nx⟩ true []) st' vc acc [] := by intro x q hq; simp only [go_sem, Nat.reduceSub, Int.reduceEq, Nat.reduceLT, Nat.reduceDiv, Nat.reduceAdd, Nat.reduceBEq, Nat.reduceLeDiff, reduceCtorEq, Nat.reduceEqDiff, Nat.reduceMod, Nat.reduceMul, x]; exact hq)
  (hs : zk6 ops (fun i => (acc[i]?).getD zkc) = true := by exact zjm (by kernel_rfl))
  (hv : vc = true := by first | rfl | (simp only [go_sem, Nat.reduceLeDiff]; done) | (simp only [go_sem, Nat.reduceLeDiff]; rfl) | (simp; done) | (simp [oneD] <;> omega) | (simp_all; done) | (simp_all [oneD] <;> omega)) (hlim : st'.nx <= lim := by first | exact za4 _ | exact lb rfl | (dsimp only; omega) | (simp <;> omega)) : Ok P lim n (.region id ops true) st Q :=
 .drawn S.tm S.mixed V hok (h x) hs hv hlim hQ
theorem WRun.rx {X1 X2 X3 X4 : Prop} {ops : Array Oper} (k : Nat) {l l' : List Oper} {st st' : St} {acc acc' : List FP} {Q : St -> List FP -> Prop} {vc : Bool} (x1 : X1) (x2 : X2) (x3 : X3) (x4 : X4)
  (hQ : WRun P tab true lim ops l' st' acc' Q)
  (h : X1 -> X2 -> X3 -> X4 -> zjf (runK tab true true ops.toList k l st true acc) st' vc acc' l' := by intro x1 x2 x3 x4 q hq; simp only [go_sem, Nat.reduceSub, Int.reduceEq, Nat.reduceLT, Nat.reduceDiv, Nat.reduceAdd, Nat.reduceBEq, Nat.reduceLeDiff, reduceCtorEq, Nat.reduceEqDiff, Nat.reduceMod, Nat.reduceMul, x1, x2, x3, x4]; exact hq)
  (hv : vc = true := by first | rfl | (simp only [go_sem, Nat.reduceLeDiff]; done) | (simp only [go_sem, Nat.reduceLeDiff]; rfl) | (simp; done) | (simp [oneD] <;> omega) | (simp_all; done) | (simp_all [oneD] <;> omega)) (hlim : st'.nx <= lim := by first | exact za4 _ | exact lb rfl | (dsimp only; omega) | (simp <;> omega)) : WRun P tab true lim ops l st acc Q :=
 WRun.EN k (h x1 x2 x3 x4).eq (.inl rfl) hv hlim hQ
end
section
variable {P : Program} {tab : Nat -> TI} {lim n : Nat}
theorem WRun.nd {own dr : Bool} {ops : Array Oper} {st : St} {acc : List FP} {Q : St -> Prop} (hQ : Q st) (hs : zk6 ops (fun i => (acc[i]?).getD zkc) = true := by exact zjm (by kernel_rfl)) : WRun P tab own lim ops [] st acc (fun st' fps => (dr = true -> zk6 ops (fun i => (fps[i]?).getD zkc) = true) /\ Q st') := .nil ⟨fun _ => hs, hQ⟩
theorem WRun.cl {ops : Array Oper} {o : Oper} {l : List Oper} {st : St} {acc : List FP} {Q : St -> List FP -> Prop} {c : Call} {f : Operand} {K : FuncId} {caps ds args : List D} {r : D}
  (hK : zb9 P K args r) (hQ : WRun P tab true lim ops l (st.app o.dst { d := r, vc := true }) (acc ++ [fpOf o (st.fs lim) { d := r, vc := true }]) Q)
  (ho : o.op = .call c := by exact rfl) (hc : c.callee = .value f := by exact rfl) (hg : o.guard = none := by exact rfl) (hf : opd true (getR st.vars) f = (.fn (.func K) caps, true) := by exact rfl) (hds : opds true (getR st.vars) c.args.toList = (ds, true) := by exact rfl) (hl : zdm (getL st.heap) (ds ++ caps) = (args, true) := by exact rfl) : WRun P tab true lim ops (o :: l) st acc Q :=
 .call ho hc hg hf hds hl hK hQ
theorem Ok.cd {c x y st b} {Q : Exit -> St -> Prop} (h1 : b = true -> Ok P lim n x st Q) (h2 : b = false -> Ok P lim n y st Q) (hk : zcz c = true := by exact rfl) (hc : ev (getR st.vars) c = .bool b := by exact rfl) : Ok P lim n (.cond c x y) st Q :=
 .cond hk hc h1 h2
theorem WRun.nn {own : Bool} {ops : Array Oper} {st : St} {acc : List FP} {Q : St -> Prop} (hQ : Q st) : WRun P tab own lim ops [] st acc (fun st' fps => (false = true -> zk6 ops (fun i => (fps[i]?).getD zkc) = true) /\ Q st') := .nil ⟨nofun, hQ⟩
theorem Ok.rr {st : St} {Q : Exit -> St -> Prop} (h : Q .ret st := by exact ⟨.inr rfl, rsi⟩) : Ok P lim n .ret st Q := .ret h
theorem Wk.iz {s : Nat} {l : List D} {c : Nat} (hc : c < 8 := by decide) : Wk (.imm s l c) (.imm s l 4) := Wk.imm4 _ _ hc
end
theorem wfn {n : Nat} (h : Tm.wf (.int .i64 (n : Int))) : (n : Int) <= 9223372036854775807 := by
 simp only [wf, IntKind.max, IntKind.signed, IntKind.bits] at h
 simp at h; omega
theorem Goes.mq {X Y : Prop} {lim n0 : Nat} {st s : St} (x : X) (y : Y) (V H : List Nat) (ps : List (Nat × Nat)) (h1 : X -> (⟨mvV (mvF ps) (zcw V st.vars), mvH (mvF ps) (zcw H st.heap), s.nx⟩ : St) = s := by intro x; first | rfl | simp only [go_sem, Nat.reduceBEq, Nat.reduceAdd, x] <;> rfl)
  (h4 : Y -> mvOk ps n0 s.nx (idsV (zcw V st.vars) ++ idsH (zcw H st.heap)) = true := by intro y; first | rfl | simp only [idsV, idsH, zcw, getL, D.ids, Blk.ids, natbeq, Nat.reduceBEq, cond_true, cond_false, zag, zai, zal, y] <;> rfl)
  (h2 : n0 <= s.nx := by exact lb rfl) (h3 : s.nx <= lim := by exact lb rfl) : Goes lim n0 st s := .mv V H ps (h1 x) h2 h3 (h4 y)
theorem Goes.w0 {lim n0 : Nat} {st s : St} (t id z : Nat) {s0 k : Nat} (h : Goes lim n0 ⟨put st.vars t (.ref id z 0 0 (some uC)), st.heap, st.nx⟩ s) (hd : getR st.vars t = .imm s0 [] k := by exact rfl) (hk : k % 8 <= 1 := by decide) : Goes lim n0 st s := .wk t _ _ hd (.own0 id z s0 k hk) h
theorem Goes.n0 {lim n0 : Nat} {st s : St} (z : Nat) (e : TypeId) (h : Goes lim n0 ⟨st.vars, put st.heap st.nx (.arr e z true []), st.nx + 1⟩ s) (hn : st.nx < lim := by exact lb rfl) : Goes lim n0 st s := .new0 z e hn h
end Go.Tm

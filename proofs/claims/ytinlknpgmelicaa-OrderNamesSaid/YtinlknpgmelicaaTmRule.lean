/- Rules by which functions' codes are walked through by scripts: regions, calls, loops. -/
import Derived.Test.YtinlknpgmelicaaTmRun
import Derived.KernelRfl
namespace Go.Tm
open Go.RowKit Go.WideShapes

theorem nth_map {α : Type} (f : α → D) (l : List α) (i : Nat) (h : i < l.length) : nth (l.map f) i = f l[i] := by
  unfold nth; simp [h]

theorem blt_succ (n : Nat) : Nat.blt n (n + 1) = true := Nat.ble_eq_true_of_le (Nat.le_refl _)
theorem blt_dec (a b : Nat) : Nat.blt a b = decide (a < b) := by
  show Nat.ble (a + 1) b = _
  rw [Bool.eq_iff_iff]; simp [Nat.ble_eq]; omega
theorem blt_self (n : Nat) : Nat.blt n n = false := by
  cases h : Nat.blt n n with
  | false => rfl
  | true => exact absurd (Nat.le_of_ble_eq_true h) (Nat.not_succ_le_self n)

theorem ble_dec (a b : Nat) : Nat.ble a b = decide (a ≤ b) := by
  rw [Bool.eq_iff_iff]; simp [Nat.ble_eq]
theorem mkZ_zero (d : D) : mkZ 0 d = d := rfl
theorem mkZL_zero (l : List D) : mkZL 0 l = l := rfl

/-- what a run comes to, said so that simp may reckon it -/
def Comes (r : Option (St × Bool × List FP × List Oper)) (st' : St) (vc : Bool) (acc : List FP) (l : List Oper) : Prop :=
  ∀ q : St → Bool → List FP → List Oper → Prop, q st' vc acc l → match r with | some (s, v, f, l) => q s v f l | none => False

theorem Comes.eq {r : Option (St × Bool × List FP × List Oper)} {st' : St} {vc : Bool} {acc : List FP} {l : List Oper} (h : Comes r st' vc acc l) : r = some (st', vc, acc, l) := by
  have := h (fun s v f k => (s, v, f, k) = (st', vc, acc, l)) rfl
  cases r with
  | none => exact this.elim
  | some x => exact congrArg some this

section
variable {P : Program} {tab : Nat → TI} {lim n : Nat}

theorem Ok.plain {id : Nat} {ops : Array Oper} {st st' : St} {vc : Bool} {acc : List FP} {Q : Exit → St → Prop} (hT : TabOk P tab) (hm : P.follows .mixedOrders = true) (V : List Nat) (hok : regOk n ops false = true)
    (h : Comes (runE tab true false ops.toList ops.toList ⟨keep V st.vars, st.heap, st.nx⟩ true []) st' vc acc []) (hv : vc = true) (hlim : st'.nx ≤ lim) (hQ : Q .normal st') : Ok P lim n (.region id ops false) st Q :=
  Ok.region (own := true) hT hm V hok (WRun.E h.eq (.inr fun _ _ _ h => ⟨nofun, h.2⟩) hv hlim (.nil ⟨nofun, hQ⟩)).2

theorem Ok.drawn {id : Nat} {ops : Array Oper} {st st' : St} {vc : Bool} {acc : List FP} {Q : Exit → St → Prop} (hT : TabOk P tab) (hm : P.follows .mixedOrders = true) (V : List Nat) (hok : regOk n ops true = true)
    (h : Comes (runE tab true true ops.toList ops.toList ⟨keep V st.vars, st.heap, st.nx⟩ true []) st' vc acc []) (hs : schedB ops (fun i => (acc[i]?).getD fpDflt) = true) (hv : vc = true) (hlim : st'.nx ≤ lim) (hQ : Q .normal st') : Ok P lim n (.region id ops true) st Q :=
  Ok.region (own := true) hT hm V hok (WRun.E h.eq (.inl rfl) hv hlim (.nil ⟨fun _ => hs, hQ⟩)).2

theorem Ok.reg {id : Nat} {ops : Array Oper} {draw : Bool} {st : St} {Q : Exit → St → Prop} (hT : TabOk P tab) (hm : P.follows .mixedOrders = true) (V : List Nat) (hok : regOk n ops draw = true) (h : RegA P tab true lim ops draw ⟨keep V st.vars, st.heap, st.nx⟩ (Q .normal)) : Ok P lim n (.region id ops draw) st Q := Ok.region hT hm V hok h

/-- The rule: operations up to the next call. -/
theorem WRun.R {ops : Array Oper} {dr : Bool} {l l' : List Oper} {st st' : St} {acc acc' : List FP} {Q : St → List FP → Prop} {vc : Bool}
    (hdr : dr = true ∨ ∀ st a b, Q st a → Q st b) (h : Comes (runE tab true dr ops.toList l st true acc) st' vc acc' l') (hv : vc = true) (hlim : st'.nx ≤ lim) (hQ : WRun P tab true lim ops l' st' acc' Q) : WRun P tab true lim ops l st acc Q :=
  (WRun.E h.eq hdr hv hlim hQ).2

theorem pureNw {st : St} : ∀ id, ((0 : Nat), (0 : Nat)).1 ≤ id → id < ((0 : Nat), (0 : Nat)).2 → st.nx ≤ id := fun _ _ h => absurd h (Nat.not_lt_zero _)

/-- The rule: a call of a function that turns nothing. -/
theorem WRun.call {ops : Array Oper} {o : Oper} {l : List Oper} {st : St} {acc : List FP} {Q : St → List FP → Prop} {c : Call} {f : Operand} {K : FuncId} {caps ds args : List D} {r : D}
    (ho : o.op = .call c) (hc : c.callee = .value f) (hg : o.guard = none) (hf : opd true (getR st.vars) f = (.fn (.func K) caps, true)) (hds : opds true (getR st.vars) c.args.toList = (ds, true)) (hl : lends (getL st.heap) (ds ++ caps) = (args, true))
    (hK : CallP P K args r) (hQ : WRun P tab true lim ops l (st.app o.dst { d := r, vc := true }) (acc ++ [fpOf o (st.fs lim) { d := r, vc := true }]) Q) : WRun P tab true lim ops (o :: l) st acc Q := by
  obtain ⟨os, st', hch, hq⟩ := hQ
  refine ⟨_, st', .cons (out := { d := r, vc := true }) ?_ pureNw hch, by simpa using hq⟩
  unfold Fires
  simp only [hg]
  unfold Core
  simp only [ho, hc]
  have hl' : lends (st.fs lim).hp (ds ++ caps) = (args, true) := hl
  exact ⟨K, caps, true, ds, true, r, hf, rfl, hds, rfl, .inl ⟨by rw [hl'], by rw [hl']; exact hK, rfl⟩⟩

/-- The rule: a guarded call of a function that turns nothing. -/
theorem WRun.gcall {ops : Array Oper} {o : Oper} {l : List Oper} {st : St} {acc : List FP} {Q : St → List FP → Prop} {c : Call} {f : Operand} {K : FuncId} {r : D} {j t : Nat} {want g : Bool}
    (ho : o.op = .call c) (hc : c.callee = .value f) (hg : o.guard = some (j, want)) (hj : dstAt ops.toList j = some t) (hgv : gval want (getR st.vars t) = some g)
    (h : g = true → ∃ caps ds args, opd true (getR st.vars) f = (.fn (.func K) caps, true) ∧ opds true (getR st.vars) c.args.toList = (ds, true) ∧ lends (getL st.heap) (ds ++ caps) = (args, true) ∧ CallP P K args r)
    (hQ : WRun P tab true lim ops l (st.app o.dst { d := .when g r, vc := true }) (acc ++ [fpOf o (st.fs lim) { d := .when g r, vc := true }]) Q) : WRun P tab true lim ops (o :: l) st acc Q := by
  obtain ⟨os, st', hch, hq⟩ := hQ
  refine ⟨_, st', .cons (out := { d := .when g r, vc := true }) ?_ pureNw hch, by simpa using hq⟩
  unfold Fires
  simp only [hg]
  refine ⟨t, g, { d := r, vc := true }, ?_, hgv, fun hgt => ?_, ?_⟩
  · rw [dstAt_eq] at hj
    simpa [gslot] using hj
  · obtain ⟨caps, ds, args, h1, h3, h5, h7⟩ := h hgt
    unfold Core
    simp only [ho, hc]
    have hl' : lends (st.fs lim).hp (ds ++ caps) = (args, true) := h5
    exact ⟨K, caps, true, ds, true, r, h1, rfl, h3, rfl, .inl ⟨by rw [hl'], by rw [hl']; exact h7, rfl⟩⟩
  · cases g <;> rfl

/-- The rule: a call over own memory. -/
theorem WRun.hcall {ops : Array Oper} {o : Oper} {l : List Oper} {st : St} {acc : List FP} {Q : St → List FP → Prop} {c : Call} {f : Operand} {K : FuncId} {caps ds : List D} {H : List (Nat × Blk)} {r : D} {eff : List (Nat × Option Blk)} {nw : Nat × Nat}
    (ho : o.op = .call c) (hc : c.callee = .value f) (hg : o.guard = none) (hf : opd true (getR st.vars) f = (.fn (.func K) caps, true)) (hds : opds true (getR st.vars) c.args.toList = (ds, true))
    (hK : CallH P K (ds ++ caps) H r eff nw) (hH : ∀ id b, getL H id = some b → getL st.heap id = some b) (hE : ∀ x ∈ eff, x.1 ∈ H.map (·.1) ∨ nw.1 ≤ x.1 ∧ x.1 < nw.2) (hn : nw.1 = nw.2 ∨ st.nx ≤ nw.1 ∧ nw.2 ≤ lim)
    (hQ : WRun P tab true lim ops l (st.app o.dst { d := r, vc := true, eff := eff, nw := nw, met := H.map (·.1) }) (acc ++ [fpOf o (st.fs lim) { d := r, vc := true, eff := eff, nw := nw, met := H.map (·.1) }]) Q) : WRun P tab true lim ops (o :: l) st acc Q := by
  obtain ⟨os, st', hch, hq⟩ := hQ
  have hnn : ∀ id, nw.1 ≤ id → id < nw.2 → st.nx ≤ id ∧ id < lim := by
    intro id h1 h2
    rcases hn with h | ⟨h3, h4⟩ <;> omega
  refine ⟨_, st', .cons (out := { d := r, vc := true, eff := eff, nw := nw, met := H.map (·.1) }) ?_ (fun id h1 h2 => (hnn id h1 h2).1) hch, by simpa using hq⟩
  unfold Fires
  simp only [hg]
  unfold Core
  simp only [ho, hc]
  refine ⟨K, caps, true, ds, true, r, hf, rfl, hds, rfl, .inr (.inl ⟨H, eff, nw, hK, hH, fun id h1 h2 => ?_, hE, rfl⟩)⟩
  have := hnn id h1 h2
  simp only [St.fs, Bool.and_eq_true, decide_eq_true_eq]
  exact this

/-- The rule: a call that asks whether two lists of one's own lie over each other. -/
theorem WRun.overs {ops : Array Oper} {o : Oper} {l : List Oper} {st : St} {acc : List FP} {Q : St → List FP → Prop} {c : Call} {f : Operand} {K : FuncId} {caps ds : List D} {i j : Nat}
    (ho : o.op = .call c) (hc : c.callee = .value f) (hg : o.guard = none) (hf : opd true (getR st.vars) f = (.fn (.func K) caps, true)) (hds : opds true (getR st.vars) c.args.toList = (ds, true))
    (hK : Overs P K) (hA : ApartD (getL st.heap) (ds ++ caps) i j)
    (hQ : WRun P tab true lim ops l (st.app o.dst { d := .bool false, vc := true, met := [i, j] }) (acc ++ [fpOf o (st.fs lim) { d := .bool false, vc := true, met := [i, j] }]) Q) : WRun P tab true lim ops (o :: l) st acc Q := by
  obtain ⟨os, st', hch, hq⟩ := hQ
  refine ⟨_, st', .cons (out := { d := .bool false, vc := true, met := [i, j] }) ?_ pureNw hch, by simpa using hq⟩
  unfold Fires
  simp only [hg]
  unfold Core
  simp only [ho, hc]
  exact ⟨K, caps, true, ds, true, .undef, hf, rfl, hds, rfl, .inr (.inr ⟨i, j, hK, hA, rfl⟩)⟩
end

/-- what a function hands back, said so that simp may reckon it -/
def ResIs (tab : Nat → TI) (st : St) (l : List ResultVar) (r : D) : Prop := match resL tab st l with | some (ds, p) => p = true ∧ resT ds = r | none => False

theorem ResIs.to {tab : Nat → TI} {st : St} {l : List ResultVar} {r : D} (h : ResIs tab st l r) : ∃ ds, resL tab st l = some (ds, true) ∧ resT ds = r := by
  unfold ResIs at h
  split at h
  · rename_i ds p he; obtain ⟨rfl, h2⟩ := h; exact ⟨ds, he, h2⟩
  · exact h.elim

theorem wr_eq (k : IntKind) (n : Int) (h1 : k.min ≤ n) (h2 : n ≤ k.max) : wr k n = n := by
  unfold wr
  cases k <;> simp [IntKind.wrap, IntKind.min, IntKind.max, IntKind.signed, IntKind.bits] at h1 h2 ⊢ <;> (try split) <;> omega

/-- these entries, in this order -/
def pickL {α : Type} : List Nat → List (Nat × α) → List (Nat × α)
  | [], _ => []
  | t :: V, l => match getL l t with
    | some d => (t, d) :: pickL V l
    | none => pickL V l

theorem getL_pick {α : Type} (V : List Nat) (l : List (Nat × α)) (t : Nat) (d : α) (h : getL (pickL V l) t = some d) : getL l t = some d := by
  induction V with
  | nil => cases h
  | cons v V ih =>
    simp only [pickL] at h
    split at h
    · rename_i x hx
      simp only [getL] at h
      cases hb : Nat.beq v t
      · rw [hb] at h; exact ih h
      · rw [hb] at h; cases h; rw [← Nat.eq_of_beq_eq_true hb]; exact hx
    · exact ih h

theorem sub_of (V H : List Nat) (st : St) {nx : Nat} (hn : st.nx ≤ nx) : Sub ⟨pickL V st.vars, pickL H st.heap, nx⟩ st := ⟨fun t d h => getL_pick V _ t d h, fun t d h => getL_pick H _ t d h, hn⟩

/-- what is known from here on -/
theorem Ok.cut {P : Program} {lim n : Nat} {c : Code} {st : St} {Q : Exit → St → Prop} (V H : List Nat) (nx : Nat) (hn : st.nx ≤ nx) (h : Ok P lim n c ⟨pickL V st.vars, pickL H st.heap, nx⟩ Q) : Ok P lim n c st Q := .sub (sub_of V H st hn) h

/-- what a loop's round must leave -/
def loopQ {ι : Type} (V H : List Nat) (S : ι → St) (Pr : ι → Prop) (μ : ι → Nat) (i : ι) (Q : Exit → St → Prop) : Exit → St → Prop := fun e st' => match e with | .normal => ∃ j, (⟨pickL V st'.vars, pickL H st'.heap, (S j).nx⟩ : St) = S j ∧ st'.nx ≤ (S j).nx ∧ Pr j ∧ μ j < μ i | e => Q e st'

theorem OkL.sub {P : Program} {lim n : Nat} {c : Code} {st st' : St} {Q : Exit → St → Prop} (hs : Sub st' st) (h : OkL P lim n c st' Q) : OkL P lim n c st Q := by
  intro E F a w g hF hR
  obtain ⟨F', hF', hR'⟩ := hR.sub hF hs
  exact h E F' a w g hF' hR'

theorem Ok.loopI {P : Program} {lim n : Nat} {c : Code} {st : St} {Q : Exit → St → Prop} {ι : Type} (V H : List Nat) (S : ι → St) (Pr : ι → Prop) (μ : ι → Nat) (i0 : ι) (hs : (⟨pickL V st.vars, pickL H st.heap, (S i0).nx⟩ : St) = S i0) (hn : st.nx ≤ (S i0).nx) (h0 : Pr i0)
    (round : ∀ i, Pr i → Ok P lim n c (S i) (loopQ V H S Pr μ i Q)) : Ok P lim n (.loop c) st Q := by
  have key : ∀ m i, μ i = m → Pr i → OkL P lim n c (S i) Q := by
    intro m
    induction m using Nat.strongRecOn with
    | _ m ih =>
      intro i hm hI
      refine .round ((round i hI).mono ?_)
      intro e s hq
      cases e with
      | normal =>
        obtain ⟨j, h1, h2, h3, h4⟩ := hq
        exact .sub (h1 ▸ sub_of V H s h2) (ih (μ j) (hm ▸ h4) j rfl h3)
      | _ => exact hq
  exact OkL.to (.sub (hs ▸ sub_of V H st hn) (key _ i0 rfl h0))

/-! ## Contracts, from one to another -/
theorem reps_mid {C : Cx} {d : D} {post : List D} : ∀ {pre : List D} {vs : List Value}, reps C (pre ++ d :: post) vs → ∃ vp v vq, vs = vp ++ v :: vq ∧ rep C d v ∧ ∀ d', rep C d' v → reps C (pre ++ d' :: post) vs
  | [], vs, h => by
    simp only [List.nil_append, reps] at h
    obtain ⟨v, vq, rfl, h1, h2⟩ := h
    exact ⟨[], v, vq, rfl, h1, fun d' h' => by simp only [List.nil_append, reps]; exact ⟨v, vq, rfl, h', h2⟩⟩
  | p :: pre, vs, h => by
    simp only [List.cons_append, reps] at h
    obtain ⟨u, vs', rfl, h1, h2⟩ := h
    obtain ⟨vp, v, vq, rfl, h3, h4⟩ := reps_mid h2
    exact ⟨u :: vp, v, vq, rfl, h3, fun d' h' => by simp only [List.cons_append, reps]; exact ⟨u, _, rfl, h1, h4 d' h'⟩⟩

theorem callP_split {P : Program} {K : FuncId} {pre post : List D} {d r : D} (d1 d2 : D) (hd : ∀ C v, rep C d v → rep C d1 v ∨ rep C d2 v) (h1 : CallP P K (pre ++ d1 :: post) r) (h2 : CallP P K (pre ++ d2 :: post) r) : CallP P K (pre ++ d :: post) r := by
  refine ⟨h1.1, fun w vs hvs => ?_⟩
  obtain ⟨_, v, _, _, h3, h4⟩ := reps_mid hvs
  rcases hd _ _ h3 with h | h
  · exact h1.2 w vs (h4 _ h)
  · exact h2.2 w vs (h4 _ h)

theorem callH_split {P : Program} {K : FuncId} {pre post : List D} {H : List (Nat × Blk)} {d r : D} {eff : List (Nat × Option Blk)} {nw : Nat × Nat} (d1 d2 : D) (hd : ∀ C v, rep C d v → rep C d1 v ∨ rep C d2 v) (h1 : CallH P K (pre ++ d1 :: post) H r eff nw) (h2 : CallH P K (pre ++ d2 :: post) H r eff nw) : CallH P K (pre ++ d :: post) H r eff nw := by
  refine ⟨h1.1, fun fr w g hp nu vs a1 a2 a3 hvs => ?_⟩
  obtain ⟨_, v, _, _, h3, h4⟩ := reps_mid hvs
  rcases hd _ _ h3 with h | h
  · exact h1.2 fr w g hp nu vs a1 a2 a3 (h4 _ h)
  · exact h2.2 fr w g hp nu vs a1 a2 a3 (h4 _ h)

/-- a contract for weaker data serves -/
theorem callP_le {P : Program} {K : FuncId} {args args' : List D} {r : D} (h : ∀ C vs, reps C args vs → reps C args' vs) (hK : CallP P K args' r) : CallP P K args r :=
  ⟨hK.1, fun w vs hvs => hK.2 w vs (h _ _ hvs)⟩

/-- a list is nil, or it is not -/
theorem rep_nil_split {s : Nat} {l : List D} (C : Cx) (v : Value) (h : rep C (.imm s l 4) v) : rep C (.imm s l 2) v ∨ (l = [] ∧ rep C (.imm s l 0) v) := by
  simp only [rep] at h ⊢
  obtain ⟨a, cap, rfl, h1, h2, _, _, _, h6, _, h7⟩ := h
  cases a with
  | some a0 =>
    left
    exact ⟨some a0, cap, rfl, h1, h2, by simp, by simp, by simp, by simp, by simp, by simpa using h7⟩
  | none =>
    right
    have hc := h6 rfl
    have hl : l = [] := List.length_eq_zero_iff.1 (by omega)
    subst hl
    exact ⟨rfl, none, cap, rfl, h1, h2, by simp, by simp, by simp [hc], fun _ => hc, by simp, .inl rfl⟩

/-- no elements: nil or not, of whatever size -/
theorem rep_nil_any {s s' c c' : Nat} (hc : c' % 8 = 4) (hz : 0 < c' / 8 → 0 < c / 8) (C : Cx) (v : Value) (h : rep C (.imm s [] c) v) : rep C (.imm s' [] c') v := by
  simp only [rep] at h ⊢
  obtain ⟨a, cap, rfl, h1, h2, _, _, _, h6, h7, _⟩ := h
  exact ⟨a, cap, rfl, h1, h2, by omega, by omega, by omega, h6, fun h => h7 (hz h), .inl trivial⟩
end Go.Tm

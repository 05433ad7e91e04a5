/- A function keeps its contract if its code runs so; tables of types. -/
import Derived.Test.YtinlknpgmelicaaTmCode
namespace Go.Tm
open Go.RowKit Go.WideShapes

theorem tabOk_of {P : Program} {l : List (Nat × TI)} (h : (l.all fun x => tiChk P x.1 x.2 && (!x.2.eqs || eqsChk P x.1 x.2)) = true) : TabOk P fun t => match getL l t with | some x => x | none => default := by
  have key : ∀ t x, getL l t = some x → tiChk P t x = true ∧ (x.eqs = true → eqsChk P t x = true) := by
    intro t x hg
    have hm : (t, x) ∈ l := by
      clear h
      induction l with
      | nil => cases hg
      | cons y l ih =>
        obtain ⟨a, z⟩ := y
        simp only [getL] at hg
        cases hb : Nat.beq a t
        · rw [hb] at hg; exact List.mem_cons_of_mem _ (ih hg)
        · rw [hb] at hg; cases hg; rw [Nat.eq_of_beq_eq_true hb]; simp
    have := List.all_eq_true.1 h (t, x) hm
    simp only [Bool.and_eq_true, Bool.or_eq_true, Bool.not_eq_true'] at this
    refine ⟨this.1, fun he => this.2.resolve_left ?_⟩
    rw [he]; simp
  refine ⟨fun t hk => ?_, fun t hk => ?_⟩
  all_goals
    simp only at hk ⊢
    cases hg : getL l t with
    | none => rw [hg] at hk; exact absurd hk (by simp [default, instInhabitedTI.default])
    | some x => rw [hg] at hk; first | exact (key t x hg).1 | exact (key t x hg).2 hk

/-! ## Functions -/
def argVars : Nat → List D → List (Nat × D)
  | _, [] => []
  | k, d :: ds => (k, d) :: argVars (k + 1) ds

def resD (tab : Nat → TI) (st : St) : ResultVar → Option (D × Bool)
  | .tmp t => some (getR st.vars t, true)
  | .cell a t => match loadD (getL st.heap) ((tab t).kind == 2) (tab t).size (getR st.vars a) with
    | some (d, p) => some (d, p && !((tab t).kind == 0))
    | none => none

def resL (tab : Nat → TI) (st : St) : List ResultVar → Option (List D × Bool)
  | [] => some ([], true)
  | r :: rs => match resD tab st r, resL tab st rs with
    | some (d, p), some (ds, q) => some (d :: ds, p && q)
    | _, _ => none

def resT : List D → D
  | [d] => d
  | l => .tuple l

section
variable {P : Program} {tab : Nat → TI} {E : En} {n : Nat} {F : FrS} {a : Act} {w : World} {g : Gh}

def resV (tmps : Array Value) : ResultVar → Sem Value
  | .tmp t => pure (tmps.getD t undef)
  | .cell a t => do loadVar t (← asAddr (tmps.getD a undef))

theorem resD_ok (hT : TabOk P tab) {st : St} (hR : Rel E n F a w g) (h1 : F.rd = getR st.vars) (h2 : F.hp = getL st.heap) {r : ResultVar} {d : D} {p : Bool} (h : resD tab st r = some (d, p)) (hp : p = true) :
    ∃ v, (resV a.tmps r).run P w = .ok v w ∧ rep (cx w g F.hp) d v := by
  cases r with
  | tmp t =>
    simp only [resD, Option.some.injEq, Prod.mk.injEq] at h
    obtain ⟨rfl, _⟩ := h
    rw [← h1]
    exact ⟨_, rfl, hR.rd t⟩
  | cell x t =>
    simp only [resD] at h
    split at h
    · rename_i d' p' hl
      cases h
      simp only [Bool.and_eq_true] at hp
      rw [← h1, ← h2] at hl
      have hq := q_load (P := P) (o := { dst := none, op := .load t (.tmp x), type := 0, pos := "", after := #[], guard := none }) hR (t := t) (ti := tab t) (x := .tmp x) rfl (hT.1 t (kd hp.2)) (hR.rd x) hl hp.1
      obtain ⟨v, h1, h2⟩ := hq
      refine ⟨v, ?_, h2⟩
      unfold resV
      have hev : a.eval (.tmp x) = a.tmps.getD x undef := rfl
      simp only [execOp, Instr.loadAt, hev] at h1
      cases hv : a.tmps.getD x undef with
      | pointer ad =>
        cases ad with
        | none => rw [hv] at h1; simp [Instr.sureAddr] at h1
        | some ad =>
          rw [hv] at h1
          simp only [Instr.sureAddr, pure_bind, Sem.run_bind] at h1
          have has : asAddr (a.tmps.getD x undef) = pure ad := by rw [hv]; rfl
          show (do loadVar t (← asAddr (a.tmps.getD x undef)) : Sem Value).run P w = .ok v w
          rw [has, pure_bind]
          cases hh : (loadVar t ad).run P w with
          | ok v' w' => rw [hh] at h1; simpa using h1
          | halt x' w' => rw [hh] at h1; simp at h1
      | _ => rw [hv] at h1; simp [Instr.sureAddr] at h1
    · cases h

theorem resL_ok (hT : TabOk P tab) {st : St} (hR : Rel E n F a w g) (h1 : F.rd = getR st.vars) (h2 : F.hp = getL st.heap) : ∀ (rs : List ResultVar) (ds : List D) (p : Bool), resL tab st rs = some (ds, p) → p = true →
    ∃ vs : List Value, (rs.mapM (resV a.tmps)).run P w = .ok vs w ∧ reps (cx w g F.hp) ds vs
  | [], ds, p, h, _ => by
    simp only [resL, Option.some.injEq, Prod.mk.injEq] at h
    obtain ⟨rfl, _⟩ := h
    exact ⟨[], by simp, by simp only [reps]⟩
  | r :: rs, ds, p, h, hp => by
    simp only [resL] at h
    split at h
    · rename_i d p' ds' q e1 e2
      cases h
      simp only [Bool.and_eq_true] at hp
      obtain ⟨v, g1, g2⟩ := resD_ok hT hR h1 h2 e1 hp.1
      obtain ⟨vs, g3, g4⟩ := resL_ok hT hR h1 h2 rs ds' q e2 hp.2
      refine ⟨v :: vs, ?_, ?_⟩
      · simp only [List.mapM_cons, Sem.run_bind, g1, g3, Result.andThen_ok, Sem.run_pure]
      · simp only [reps]
        exact ⟨v, vs, rfl, g2, g4⟩
    · cases h

theorem results_ok (hT : TabOk P tab) {fn : Func} {st : St} (hR : Rel E n F a w g) (h1 : F.rd = getR st.vars) (h2 : F.hp = getL st.heap) {ds : List D} (h : resL tab st fn.results.toList = some (ds, true)) :
    ∃ v, (results fn a.tmps).run P w = .ok v w ∧ rep (cx w g F.hp) (resT ds) v := by
  obtain ⟨rvs, g1, g2⟩ := resL_ok hT hR h1 h2 _ _ _ h rfl
  have hm : (fn.results.mapM (resV a.tmps)).run P w = .ok rvs.toArray w := by
    rw [Array.mapM_eq_mapM_toList]
    simp [g1]
  have hunf : results fn a.tmps = (do let vs ← fn.results.mapM (resV a.tmps); pure (if h : vs.size = 1 then vs[0] else .tuple vs)) := rfl
  rw [hunf]
  simp only [Sem.run_bind, hm, Result.andThen_ok, Sem.run_pure]
  refine ⟨_, rfl, ?_⟩
  match ds, g2 with
  | [d], g2 =>
    simp only [reps] at g2
    obtain ⟨v, vs', rfl, hd, rfl⟩ := g2
    simpa [resT] using hd
  | [], g2 =>
    simp only [reps] at g2
    subst g2
    simp only [resT, rep]
    exact ⟨[], by simp, by simp only [reps]⟩
  | d1 :: d2 :: ds, g2 =>
    have hl := reps_length _ _ g2
    have : rvs.toArray.size ≠ 1 := by simp only [List.size_toArray, hl, List.length_cons]; omega
    rw [dif_neg this]
    simp only [resT, rep]
    exact ⟨rvs, rfl, g2⟩

theorem getR_args : ∀ (ds : List D) (vs : List Value) (k t : Nat) {C : Cx}, reps C ds vs → ∀ (tail : Array Value), (∀ j v, vs[j]? = some v → tail[k + j]? = some v) → rep C (getR (argVars k ds) t) (tail.getD t undef)
  | [], vs, k, t, C, _, tail, _ => by simp only [argVars, getR, getL, rep]
  | d :: ds, vs, k, t, C, h, tail, ht => by
    simp only [reps] at h
    obtain ⟨v, vs', rfl, hd, h⟩ := h
    simp only [argVars, getR, getL]
    cases hb : Nat.beq k t
    · simp only [cond_false]
      have := getR_args ds vs' (k + 1) t h tail (fun j u hj => by have := ht (j + 1) u (by simpa using hj); rwa [show k + (j + 1) = k + 1 + j by omega] at this)
      simpa only [getR] using this
    · have e := Nat.eq_of_beq_eq_true hb
      subst e
      have := ht 0 v rfl
      simp only [Nat.add_zero] at this
      simp only [cond_true, Array.getD_eq_getD_getElem?, this, Option.getD_some]
      exact hd

/-- The function's contract over own memory, by its code. -/
theorem callH_intro (hT : TabOk P tab) {K : FuncId} {fn : Func} {c : Code} {args : List D} {H : List (Nat × Blk)} {r : D} {eff : List (Nat × Option Blk)} {nw : Nat × Nat} (hf : P.funcs[K]? = some fn) (hb : fn.body = some c) (hname : fn.name ≠ "runtime.NumGoroutine") (hlen : args.length ≤ fn.ntmps)
    (hE : ∀ x ∈ eff, x.1 ∈ H.map (·.1) ∨ nw.1 ≤ x.1 ∧ x.1 < nw.2)
    (h : Ok P nw.2 fn.ntmps c ⟨argVars 0 args, H, nw.1⟩ fun e st => (e = .normal ∨ e = .ret) ∧ ∃ ds, resL tab st fn.results.toList = some (ds, true) ∧ resT ds = r ∧ ∃ h2 : List (Nat × Blk), (∀ i x, getL h2 i = some x → getL st.heap i = some x) ∧ getL h2 = effH (getL H) eff) : CallH P K args H r eff nw := by
  refine ⟨⟨fn, hf, hname, by rw [hb]; rfl⟩, fun fr w g hp nu vs hM hH hnw hvs => ?_⟩
  refine calls_of_wp hf hb ?_
  have hsz : vs.length = args.length := reps_length _ _ hvs
  -- what is not the callee's
  let fo : Nat → Prop := fun b => ∃ id o, hp id ≠ none ∧ getL H id = none ∧ g.σ id = some (b, o)
  let gc : Gh := ⟨g.σ, fun b => g.Z b ∧ ¬ fo b, fun m => (g.zn m).map fun Z b => Z b ∧ ¬ fo b⟩
  let nuc : Nat → Bool := fun id => decide (nw.1 ≤ id) && decide (id < nw.2)
  have hsub : ∀ id, getL H id ≠ none → hp id ≠ none := by
    intro id h
    obtain ⟨b, hb⟩ := Option.ne_none_iff_exists'.1 h
    rw [hH id b hb]; simp
  have hfo : ∀ b, fo b → ownB g hp b := fun b ⟨id, o, h1, _, h3⟩ => ⟨id, o, h1, h3⟩
  have hMc : ∀ b, ownB gc (getL H) b → ownB g hp b := fun b ⟨id, o, h1, h2⟩ => ⟨id, o, hsub id h1, h2⟩
  have hzc : ∀ m Z', (cx w gc (getL H)).zone m = some Z' → ∃ Z, (cx w g hp).zone m = some Z ∧ ∀ b, Z' b ↔ Z b ∧ ¬ fo b := by
    intro m Z' h
    unfold Cx.zone at h ⊢
    split at h
    · cases h; simp only [*, if_true]; exact ⟨_, rfl, fun b => Iff.rfl⟩
    · rename_i hm
      simp only [hm, if_false]
      simp only [cx, gc, Option.map_eq_some_iff] at h ⊢
      obtain ⟨Z, h1, rfl⟩ := h
      exact ⟨Z, h1, fun b => Iff.rfl⟩
  have hle : Cx.Le (cx w g hp) (cx w gc (getL H)) := by
    refine ⟨fun m _ Z' hZ' => ?_, fun _ _ => rfl, id, id, fun _ _ _ => rfl⟩
    obtain ⟨Z, h1, h2⟩ := hzc m Z' hZ'
    exact ⟨Z, h1, fun b k1 k2 k3 => ⟨fun h => k1 (hMc b h), (h2 b).2 ⟨k2, fun h => k1 (hfo b h)⟩, rfl⟩⟩
  have hnuc : ∀ id, nuc id = true → nu id = true := by
    intro id h
    simp only [nuc, Bool.and_eq_true, decide_eq_true_eq] at h
    exact hnw id h.1 h.2
  have hmemc : Mem fr w gc (getL H) nuc := by
    refine ⟨fun id blk hb => holds_le (C := cx w g hp) hle rfl rfl (fun _ _ _ => rfl) (hM.hd id blk (hH id blk hb)), fun id id' b o o' h1 h2 => hM.inj id id' b o o' (hsub id h1) (hsub id' h2), ?_, ?_, hM.fl⟩
    · intro id hid
      obtain ⟨h1, h2⟩ := hM.nw id (hnuc id hid)
      refine ⟨h1, ?_⟩
      cases hg : getL H id with
      | none => rfl
      | some b => rw [hH id b hg] at h2; cases h2
    · obtain ⟨Z1, k1, k2, k3⟩ := hM.zs.z1
      obtain ⟨Z2, k4, k5⟩ := hM.zs.z2
      have hnf : ∀ b, w.heap.size ≤ b → ¬ fo b := fun b hb h => by have := hM.own_lt (hfo b h); omega
      refine ⟨fun b hb => ⟨hM.zs.z0 b hb, hnf b hb⟩, ⟨fun b => Z1 b ∧ ¬ fo b, by simp only [gc, k1, Option.map_some], fun b hb => ⟨(k2 b hb.1).1, (k2 b hb.1).2, hb.2⟩, fun b hb => ⟨k3 b hb, hnf b hb⟩⟩, ⟨fun b => Z2 b ∧ ¬ fo b, by simp only [gc, k4, Option.map_some], fun b hb => ⟨(k5 b hb.1).1, (k5 b hb.1).2, hb.2⟩⟩, ?_⟩
      intro m Zm hm hZ b hb
      simp only [gc, Option.map_eq_some_iff] at hZ
      obtain ⟨Z, hZ, rfl⟩ := hZ
      obtain ⟨e1, e2, e3, e4, e5⟩ := hM.zs.zr m Z hm hZ b hb.1
      refine ⟨e1, e2, ⟨e3, hb.2⟩, fun h => e4 (hMc b h), ?_⟩
      intro m' Zm' hne hm' hZ' hb'
      simp only [gc, Option.map_eq_some_iff] at hZ'
      obtain ⟨Z', hZ', rfl⟩ := hZ'
      exact e5 m' Z' hne hm' hZ' hb'.1
  have hrel : Rel ⟨w, fr, blkOf g hp (fun id => getL H id ≠ none), gc, nuc⟩ fn.ntmps ⟨getR (argVars 0 args), getL H, nuc⟩ { tmps := vs.toArray ++ Array.replicate (fn.ntmps - vs.toArray.size) undef, defers := [] } w gc := by
    refine ⟨by simp; omega, rfl, fun t => ?_, hmemc, fun id b o h1 h2 => .inr ⟨id, o, h1, hsub id h1, h2⟩, Keep.refl _ _, ⟨rfl, rfl⟩, fun _ _ => rfl, fun _ h => h⟩
    exact getR_args args vs 0 t (reps_le hle _ _ hvs) (vs.toArray ++ Array.replicate (fn.ntmps - vs.toArray.size) undef) (fun j v hj => by
      rw [Nat.zero_add, Array.getElem?_append_left (by simpa using (List.getElem?_eq_some_iff.1 hj).1)]
      simpa using hj)
  refine wp_mono (h _ _ _ w _ ⟨rfl, rfl, fun id h1 h2 => by simp [nuc, h1, h2]⟩ hrel) ?_
  rintro e a' w' ⟨st', F0, g', ⟨he, ds, hres, rfl, h2, hsub2, hheap⟩, hF0, hrel0⟩
  obtain ⟨v, hv1, hv0⟩ := results_ok hT hrel0 hF0.1 hF0.2.1 hres
  obtain ⟨F', hF', hrel'⟩ := hrel0.sub hF0 (st' := ⟨[], h2, st'.nx⟩) ⟨(fun t d h => by cases h), hsub2, Nat.le_refl _⟩
  have hv2 : rep (cx w' g' F'.hp) (resT ds) v := by
    refine rep_le (C := cx w' g' F0.hp) (C' := cx w' g' F'.hp) ⟨fun m _ Z' hZ' => ⟨Z', hZ', fun b k1 k2 _ => ⟨?_, k2, rfl⟩⟩, fun _ _ => rfl, id, id, fun _ _ _ => rfl⟩ _ _ hv0
    rintro ⟨id, o, k3, k4⟩
    refine k1 ⟨id, o, ?_, k4⟩
    obtain ⟨bb, hbb⟩ := Option.ne_none_iff_exists'.1 k3
    rw [hF'.2.1] at hbb
    rw [hF0.2.1, hsub2 id bb hbb]
    simp
  have hFh : F'.hp = effH (getL H) eff := hF'.2.1.trans hheap
  let g'' : Gh := ⟨g'.σ, g.Z, g.zn⟩
  have hgs : ∀ id, nu id = false → g'.σ id = g.σ id := by
    intro id h
    refine hrel'.gs id ?_
    cases hc : nuc id
    · exact hc
    · rw [hnuc id hc] at h; cases h
  have hlive : ∀ id, effH hp eff id ≠ none → F'.hp id ≠ none ∨ (hp id ≠ none ∧ getL H id = none ∧ getL eff id = none) := by
    intro id hid
    unfold effH at hid
    rw [hFh]
    unfold effH
    cases hg : getL eff id with
    | some ob => rw [hg] at hid; exact .inl hid
    | none =>
      rw [hg] at hid
      cases hh : getL H id with
      | none => exact .inr ⟨hid, rfl, rfl⟩
      | some b => left; simp
  have hnotnu : ∀ id, hp id ≠ none → nu id = false := by
    intro id h
    cases hb : nu id
    · rfl
    · exact absurd (hM.nw id hb).2 h
  have hown : ∀ b, ownB g'' (effH hp eff) b → w.heap.size ≤ b ∨ ownB g hp b := by
    rintro b ⟨id, o, h1, h2⟩
    rcases hlive id h1 with h | ⟨h3, h4, _⟩
    · rcases hrel'.base id b o h h2 with h | ⟨id2, o2, _, h5, h6⟩
      · exact .inl h
      · exact .inr ⟨id2, o2, h5, h6⟩
    · exact .inr ⟨id, o, h3, by rw [← hgs id (hnotnu id h3)]; exact h2⟩
  have hle1 : Cx.Le (cx w g hp) (cx w' g'' (effH hp eff)) := Mem.le (g' := g'') hrel'.keep rfl rfl (fun id h => hgs id (by
    cases hb : nu id
    · rfl
    · exact absurd (hM.nw id hb).1 h)) hown
  have hle2 : Cx.Le (cx w' g' F'.hp) (cx w' g'' (effH hp eff)) := by
    refine ⟨fun m _ Z' hZ' => ?_, fun _ _ => rfl, id, id, fun _ _ _ => rfl⟩
    have : ∃ Z, (cx w' g' F'.hp).zone m = some Z ∧ ∀ b, Z b → Z' b ∧ ¬ fo b := by
      unfold Cx.zone at hZ' ⊢
      split at hZ'
      · cases hZ'
        simp only [*, if_true]
        refine ⟨_, rfl, fun b hb => ?_⟩
        have : gc.Z b := by rw [← hrel'.gz.1]; exact hb
        exact this
      · rename_i hm
        simp only [hm, if_false]
        have hzz : g.zn m = some Z' := hZ'
        refine ⟨fun b => Z' b ∧ ¬ fo b, ?_, fun b hb => hb⟩
        show g'.zn m = _
        rw [hrel'.gz.2]
        simp only [gc, hzz, Option.map_some]
    obtain ⟨Z, h1, h2⟩ := this
    refine ⟨Z, h1, fun b k1 k2 k3 => ⟨?_, (h2 b k2).1, rfl⟩⟩
    rintro ⟨id, o, h3, h4⟩
    rcases hlive id h3 with h | ⟨h5, h6, _⟩
    · exact k1 ⟨id, o, h, h4⟩
    · refine (h2 b k2).2 ⟨id, o, h5, h6, ?_⟩
      rw [← hgs id (hnotnu id h5)]; exact h4
  have hmem : Mem fr w' g'' (effH hp eff) (effN nu nw) := by
    refine ⟨fun id blk hb => ?_, fun id id' b o o' h1 h2 h3 h4 => ?_, fun id hid => ?_, ?_, Nat.le_trans hM.fl hrel'.keep.size⟩
    · rcases hlive id (by rw [hb]; simp) with h | ⟨h1, h2, h3⟩
      · have hFb : F'.hp id = some blk := by
          rw [hFh] at h ⊢
          unfold effH at h hb ⊢
          cases hg : getL eff id with
          | some ob => rw [hg] at hb; exact hb
          | none =>
            rw [hg] at hb h
            obtain ⟨b', hb'⟩ := Option.ne_none_iff_exists'.1 h
            have hb2 : getL H id = some b' := hb'
            have := hH id b' hb2
            have hb3 : hp id = some blk := hb
            rw [this] at hb3
            cases hb3
            exact hb2
        exact holds_le (C := cx w' g' F'.hp) hle2 rfl rfl (fun _ _ _ => rfl) (hrel'.mem.hd id blk hFb)
      · have hpb : hp id = some blk := by
          unfold effH at hb
          rw [h3] at hb
          exact hb
        refine holds_le (C := cx w g hp) hle1 rfl (hgs id (hnotnu id h1)) ?_ (hM.hd id blk hpb)
        intro b o hσ
        refine hrel'.keep.block b (holds_lt (C := cx w g hp) (hM.hd id blk hpb) hσ).1 ?_
        rintro ⟨id2, o2, k1, k2, k3⟩
        have := hM.inj id id2 b o o2 h1 k2 hσ k3
        subst this
        exact k1 h2
    · have mixed : ∀ id id' b o o', F'.hp id ≠ none → g'.σ id = some (b, o) → hp id' ≠ none → getL H id' = none → g.σ id' = some (b, o') → False := by
        intro id id' b o o' k1 k2 k3 k4 k5
        have hlt := hM.own_lt ⟨id', o', k3, k5⟩
        rcases hrel'.base id b o k1 k2 with h | ⟨id2, o2, e1, e2, e3⟩
        · have h' : w.heap.size ≤ b := h
          omega
        · have := hM.inj id' id2 b o' o2 k3 e2 k5 e3
          subst this
          exact e1 k4
      rcases hlive id h1 with k | ⟨k1, k2, _⟩
      · rcases hlive id' h2 with k' | ⟨k1', k2', _⟩
        · exact hrel'.mem.inj id id' b o o' k k' h3 h4
        · exact (mixed id id' b o o' k h3 k1' k2' (by rw [← hgs id' (hnotnu id' k1')]; exact h4)).elim
      · rcases hlive id' h2 with k' | ⟨k1', k2', _⟩
        · exact (mixed id' id b o' o k' h4 k1 k2 (by rw [← hgs id (hnotnu id k1)]; exact h3)).elim
        · exact hM.inj id id' b o o' k1 k1' (by rw [← hgs id (hnotnu id k1)]; exact h3) (by rw [← hgs id' (hnotnu id' k1')]; exact h4)
    · simp only [effN, Bool.and_eq_true, Bool.not_eq_true', Bool.and_eq_false_iff, decide_eq_false_iff_not] at hid
      obtain ⟨k1, k2⟩ := hM.nw id hid.1
      refine ⟨?_, ?_⟩
      · show g'.σ id = none
        rw [hrel'.gs id (by
          simp only [nuc, Bool.and_eq_false_iff, decide_eq_false_iff_not]
          exact hid.2)]
        exact k1
      · rw [effH_ne]
        · exact k2
        · intro hmem
          obtain ⟨x, hx, rfl⟩ := List.mem_map.1 hmem
          rcases hE x hx with h | h
          · have : getL H x.1 ≠ none := by
              intro h0
              have hfind : ∀ (l : List (Nat × Blk)), getL l x.1 = none → x.1 ∉ l.map (·.1) := by
                intro l
                induction l with
                | nil => intro _ h; cases h
                | cons y l ih =>
                  obtain ⟨q, z⟩ := y
                  intro h h'
                  simp only [getL] at h
                  cases hbq : Nat.beq q x.1
                  · rw [hbq] at h
                    simp only [List.map_cons, List.mem_cons] at h'
                    rcases h' with h' | h'
                    · rw [h'] at hbq; simp at hbq
                    · exact ih h h'
                  · rw [hbq] at h; cases h
              exact hfind H h0 h
            exact hsub _ this k2
          · rcases hid.2 with h' | h'
            · exact h' h.1
            · exact h' h.2
    · obtain ⟨Z1, k1, k2, k3⟩ := hM.zs.z1
      refine ⟨fun b hb => hM.zs.z0 b (Nat.le_trans hrel'.keep.size hb), ⟨Z1, k1, k2, fun b hb => k3 b (Nat.le_trans hrel'.keep.size hb)⟩, hM.zs.z2, ?_⟩
      intro m Zm hm hZ b hb
      obtain ⟨e1, e2, e3, e4, e5⟩ := hM.zs.zr m Zm hm hZ b hb
      refine ⟨Nat.lt_of_lt_of_le e1 hrel'.keep.size, e2, e3, ?_, e5⟩
      intro h
      rcases hown b h with h | h
      · omega
      · exact e4 h
  have fin : a'.defers = [] ∧ ∃ v, (results fn a'.tmps).run P w' = .ok v w' ∧ ∃ v' gg, Ending.returned v = .returned v' ∧ After fr w g hp nu (fun id => getL H id ≠ none) (resT ds) v' eff nw w' gg :=
    ⟨hrel'.df, v, hv1, v, g'', rfl, ⟨rfl, rfl⟩, hgs, hrel'.keep, hmem, hown, rep_le hle2 _ _ hv2⟩
  rcases he with rfl | rfl <;> exact fin
end
end Go.Tm

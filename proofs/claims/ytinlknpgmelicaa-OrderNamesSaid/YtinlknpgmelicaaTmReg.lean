/- Contracts of calls; what an operation of a region does; guards. -/
import Derived.Test.YtinlknpgmelicaaTmAop
import Derived.Orders
namespace Go.Tm
open Go.RowKit Go.WideShapes

/-! ## Contracts of functions that turn nothing -/
def cx0 (w : World) (fr : Nat) : Cx := ⟨w, fun _ => none, fun _ => False, fun _ => True, fun m => if m = 1 then some (fun b => fr ≤ b) else if m = 2 then some (fun b => b < fr) else none, true, false⟩

/-- the function is entered when it is called -/
def Enters (P : Program) (K : FuncId) : Prop := ∃ fn, P.funcs[K]? = some fn ∧ fn.name ≠ "runtime.NumGoroutine" ∧ fn.body.isSome = true

/-- Called with what reads as these data, in whatever memory, the function returns what reads as that, in new memory; nothing that was there turns. -/
def CallP (P : Program) (K : FuncId) (args : List D) (r : D) : Prop :=
  Enters P K ∧ ∀ (w : World) (vs : List Value), reps (cx0 w w.heap.size) args vs → Calls P K vs.toArray w fun e w' => ∃ v, e = .returned v ∧ Keep (fun _ => False) w w' ∧ okM new1 r = true ∧ rep (cx0 w' w.heap.size) r v

/-- what a call leaves behind -/
structure After (fr : Nat) (w : World) (g : Gh) (hp : Nat → Option Blk) (nu : Nat → Bool) (H : Nat → Prop) (r : D) (v : Value) (E : List (Nat × Option Blk)) (nw : Nat × Nat) (w' : World) (g' : Gh) : Prop where
  gz : g'.Z = g.Z ∧ g'.zn = g.zn
  gs : ∀ id, nu id = false → g'.σ id = g.σ id
  keep : Keep (blkOf g hp H) w w'
  mem : Mem fr w' g' (effH hp E) (effN nu nw)
  own : ∀ b, ownB g' (effH hp E) b → w.heap.size ≤ b ∨ ownB g hp b
  res : rep (cx w' g' (effH hp E)) r v

/-- Called over own memory, the function returns that, and leaves own memory so; nothing else turns. -/
def CallH (P : Program) (K : FuncId) (args : List D) (H : List (Nat × Blk)) (r : D) (E : List (Nat × Option Blk)) (nw : Nat × Nat) : Prop :=
  Enters P K ∧ ∀ (fr : Nat) (w : World) (g : Gh) (hp : Nat → Option Blk) (nu : Nat → Bool) (vs : List Value), Mem fr w g hp nu → (∀ id b, getL H id = some b → hp id = some b) → (∀ id, nw.1 ≤ id → id < nw.2 → nu id = true) → reps (cx w g hp) args vs →
    Calls P K vs.toArray w fun e w' => ∃ v g', e = .returned v ∧ After fr w g hp nu (fun id => getL H id ≠ none) r v E nw w' g'

/-! ### Lending -/
mutual
def lend (hp : Nat → Option Blk) : D → D × Bool
  | .ref id s off len _ => match hp id with
    | some (.arr _ s' p items) => (.imm s (unfL ((items.drop off).take len)) 4, Nat.beq s s' && Nat.ble (off + len) items.length && p && okML low3 ((items.drop off).take len) && (D.idsL ((items.drop off).take len)).isEmpty)
    | _ => (.undef, false)
  | .imm s l c => (.imm s l (c % 8), Nat.blt (c / 8) 3 || l.isEmpty)
  | .agg l => (.agg (lends hp l).1, (lends hp l).2)
  | .tuple l => (.tuple (lends hp l).1, (lends hp l).2)
  | .fn f l => (.fn f (lends hp l).1, (lends hp l).2)
  | .iface t d => (.iface t (lend hp d).1, (lend hp d).2)
  | .ptr _ _ => (.undef, false)
  | .eptr _ _ _ _ => (.undef, false)
  | .mref _ => (.undef, false)
  | .iptr m l => (.iptr 0 l, Nat.blt m 3)
  | .when _ _ => (.undef, false)
  | d => (d, true)
def lends (hp : Nat → Option Blk) : List D → List D × Bool
  | [] => ([], true)
  | d :: ds => ((lend hp d).1 :: (lends hp ds).1, (lend hp d).2 && (lends hp ds).2)
end

theorem cx0_of_at {w : World} {g : Gh} {hp : Nat → Option Blk} {Z : Nat → Prop} (fr : Nat) : ((cx w g hp).at Z).Le (cx0 w fr) := by
  refine ⟨fun m hm Z' hZ' => ?_, fun _ _ => rfl, (fun h => by cases h), (fun h => by cases h), (fun h => by cases h)⟩
  rcases hm with rfl | hm
  · simp only [Cx.zone, cx0, if_true, Option.some.injEq] at hZ'
    subst hZ'
    exact ⟨Z, by simp [Cx.zone, Cx.at], fun b _ _ _ => ⟨fun h => h, trivial, rfl⟩⟩
  · cases hm

section
variable {E : En} {n : Nat} {F : FrS} {a : Act} {w : World} {g : Gh}

/-- a datum without references, lent -/
theorem rep_low {fr : Nat} {d : D} {v : Value} (hR : Rel E n F a w g) (h : rep (cx w g F.hp) d v) (hi : d.ids = []) (hk : okM low3 d = true) : rep (cx0 w fr) (unf d) v :=
  rep_le (cx0_of_at fr) _ _ (rep_unfZ hR.mem.low d v hk hi h)

theorem elems_unfZ {C : Cx} {q : Nat → Bool} {Zt : Nat → Prop} (hq : ∀ m, q m = true → ∃ Z, C.zone m = some Z ∧ ∀ b, ¬ C.M b → Z b → b < C.w.heap.size → Zt b) : ∀ (l : List D) (b o s : Nat), okML q l = true → D.idsL l = [] → elems C l b o s → elems (C.at Zt) (unfL l) b o s
  | [], _, _, _, _, _, _ => by simp only [unfL, elems]
  | d :: ds, b, o, s, hk, hi, h => by
    simp only [elems, unfL, okML, Bool.and_eq_true, D.idsL, List.append_eq_nil_iff] at h hk hi ⊢
    obtain ⟨⟨v, h1, h2, h3, h4⟩, h5⟩ := h
    exact ⟨⟨v, rep_unfZ hq d v hk.1 hi.1 h1, h2, h3, h4⟩, elems_unfZ hq ds b (o + s) s hk.2 hi.2 h5⟩

mutual
theorem lend_ok (fr : Nat) (hR : Rel E n F a w g) : ∀ (d : D) (v : Value), rep (cx w g F.hp) d v → (lend F.hp d).2 = true → rep (cx0 w fr) (lend F.hp d).1 v
  | .ref id s off len oc, v, h, hp => by
    simp only [lend] at hp ⊢
    split at hp
    · rename_i e s' p items hb
      simp only [Bool.and_eq_true, List.isEmpty_iff] at hp ⊢
      obtain ⟨⟨⟨⟨h1, hl⟩, rfl⟩, hk⟩, hi⟩ := hp
      obtain rfl := Nat.eq_of_beq_eq_true h1
      have hl := Nat.le_of_ble_eq_true hl
      simp only [rep] at h
      obtain ⟨_, ad, cap, rfl, h1, h2, h3, _, h4⟩ := h
      have hlen : (unfL ((items.drop off).take len)).length = len := by rw [unfL_length]; simp; omega
      simp only [rep]
      refine ⟨ad, cap, by rw [hlen], by omega, h2, by simp, by simp, by simp, h3, by simp, ?_⟩
      by_cases hz : len = 0
      · left; subst hz; simp [unfL]
      right
      rcases h4 with h4 | ⟨b, T, nn, hσ, rfl, hsh, hn⟩
      · omega
      rcases hR.mem.hd id _ hb with ⟨rfl, _⟩ | ⟨b', cs, hσ', hblk, hsz, hel⟩
      · simp at hl; omega
      have e := hσ'.symm.trans hσ
      simp only [Option.some.injEq, Prod.mk.injEq] at e
      obtain ⟨rfl, _⟩ := e
      intro Z' hZ'
      refine ⟨_, rfl, rfl, fun h => h, ?_, (Array.getElem?_eq_some_iff.1 hblk).1, ?_⟩
      · have : Z' = fun _ => True := by simpa [Cx.zone, cx0] using hZ'.symm
        subst this; trivial
      · have he := elems_take _ len _ _ _ (elems_drop _ off _ _ _ hel)
        have he2 := elems_unfZ (C := { cx w g F.hp with rf := !true }) (Zt := g.Z) hR.mem.low _ _ _ _ hk hi he
        have : Z' = fun _ => True := by simpa [Cx.zone, cx0] using hZ'.symm
        subst this
        have := elems_le (C := (cx w g F.hp).at g.Z) (C' := cx0 w fr) (cx0_of_at fr) _ _ _ _ rfl he2
        rw [Nat.zero_add] at this
        exact elems_le (C := (cx w g F.hp).at g.Z) (C' := (cx0 w fr).at fun _ => True) (Cx.Le.inner (C := cx w g F.hp) (C' := cx0 w fr) (fun _ _ => rfl) fun b h1 h2 h3 => ⟨fun h => h, trivial, rfl⟩) _ _ _ _ rfl (by rw [Nat.zero_add] at he2; exact he2)
    · cases hp
  | .agg l, v, h, hp => by
    simp only [lend] at hp ⊢
    simp only [rep] at h ⊢
    obtain ⟨cs, rfl, h⟩ := h
    exact ⟨cs, rfl, lends_ok fr hR l cs h hp⟩
  | .tuple l, v, h, hp => by
    simp only [lend] at hp ⊢
    simp only [rep] at h ⊢
    obtain ⟨cs, rfl, h⟩ := h
    exact ⟨cs, rfl, lends_ok fr hR l cs h hp⟩
  | .fn f l, v, h, hp => by
    simp only [lend] at hp ⊢
    simp only [rep] at h ⊢
    obtain ⟨cs, rfl, h⟩ := h
    exact ⟨cs, rfl, lends_ok fr hR l cs h hp⟩
  | .iface t d, v, h, hp => by
    simp only [lend] at hp ⊢
    simp only [rep] at h ⊢
    obtain ⟨x, rfl, h⟩ := h
    exact ⟨x, rfl, lend_ok fr hR d x h hp⟩
  | .ptr _ _, v, h, hp => by simp only [lend, Bool.false_eq_true] at hp
  | .eptr _ _ _ _, v, h, hp => by simp only [lend, Bool.false_eq_true] at hp
  | .mref _, v, h, hp => by simp only [lend, Bool.false_eq_true] at hp
  | .when _ _, v, h, hp => by simp only [lend, Bool.false_eq_true] at hp
  | .bool b, v, h, _ => by simp only [lend]; exact rep_low (d := .bool b) hR h rfl rfl
  | .int k m, v, h, _ => by simp only [lend]; exact rep_low (d := .int k m) hR h rfl rfl
  | .str l, v, h, _ => by simp only [lend]; exact rep_low (d := .str l) hR h rfl rfl
  | .imm s l c, v, h, hp => by simp only [lend] at hp ⊢; exact rep_low (d := .imm s l c) hR h rfl (by simpa only [okM, low3] using hp)
  | .iptr m l, v, h, hp => by simp only [lend] at hp ⊢; exact rep_low (d := .iptr m l) hR h rfl (by simpa only [okM, low3] using hp)
  | .nilptr, v, h, _ => by simp only [lend]; exact rep_low (d := .nilptr) hR h rfl rfl
  | .nilfn, v, h, _ => by simp only [lend]; exact rep_low (d := .nilfn) hR h rfl rfl
  | .nilIface, v, h, _ => by simp only [lend]; exact rep_low (d := .nilIface) hR h rfl rfl
  | .nilmap, v, h, _ => by simp only [lend]; exact rep_low (d := .nilmap) hR h rfl rfl
  | .undef, v, h, _ => by simp only [lend, rep]
theorem lends_ok (fr : Nat) (hR : Rel E n F a w g) : ∀ (l : List D) (vs : List Value), reps (cx w g F.hp) l vs → (lends F.hp l).2 = true → reps (cx0 w fr) (lends F.hp l).1 vs
  | [], vs, h, _ => by simp only [reps, lends] at h ⊢; exact h
  | d :: ds, vs, h, hp => by
    simp only [lends, Bool.and_eq_true] at hp ⊢
    simp only [reps] at h ⊢
    obtain ⟨v, vs', rfl, h1, h2⟩ := h
    exact ⟨v, vs', rfl, lend_ok fr hR d v h1 hp.1, lends_ok fr hR ds vs' h2 hp.2⟩
end

mutual
/-- from one reading to another, where some marks alone occur -/
theorem rep_leQ {C C' : Cx} {q : Nat → Bool} (hz : ∀ m, q m = true → ∀ Z', C'.zone m = some Z' → ∃ Z, C.zone m = some Z ∧ ∀ b, ¬ C.M b → Z b → b < C.w.heap.size → ¬ C'.M b ∧ Z' b ∧ C'.w.heap[b]? = C.w.heap[b]?) (hs : ∀ b, b < C.w.heap.size → C'.w.shape? b = C.w.shape? b) (hf : C'.fl = true) (hrf : C.rf = false) :
    ∀ (d : D) (v : Value), okM q d = true → rep C d v → rep C' d v
  | .bool b, v, _, hr => by simpa only [rep] using hr
  | .int k n, v, _, hr => by simpa only [rep] using hr
  | .str l, v, _, hr => by simpa only [rep] using hr
  | .agg l, v, hk, hr => by
    simp only [rep, okM] at hr hk ⊢
    obtain ⟨cs, rfl, hc⟩ := hr
    exact ⟨cs, rfl, reps_leQ hz hs hf hrf l cs hk hc⟩
  | .imm s l c, v, hk, hr => by
    simp only [rep, okM, Bool.or_eq_true, List.isEmpty_iff] at hr hk ⊢
    obtain ⟨a, cap, rfl, h1, h2, h3, h4, h5, h6, hfl, h7⟩ := hr
    refine ⟨a, cap, rfl, h1, h2, h3, h4, h5, h6, fun _ => hf, ?_⟩
    rcases h7 with h7 | h7
    · exact .inl h7
    rcases hk with hk | hk
    · right
      intro Z' hZ'
      obtain ⟨Z, hZ, hzz⟩ := hz _ hk Z' hZ'
      obtain ⟨a0, ha, hs', hM, hlo, hb, he⟩ := h7 Z hZ
      obtain ⟨g1, g2, g3⟩ := hzz _ hM hlo hb
      exact ⟨a0, ha, hs', g1, g2, lt_of_blk g3 hb, elems_le (C := C.at Z) (C' := C'.at Z') (Cx.Le.inner hs hzz) l _ _ _ g3 he⟩
    · exact .inl hk
  | .ref id s off len oc, v, _, hr => by simp only [rep] at hr; rw [hrf] at hr; cases hr.1
  | .ptr id off, v, _, hr => by simp only [rep] at hr; rw [hrf] at hr; cases hr.1
  | .eptr id s i off, v, _, hr => by simp only [rep] at hr; rw [hrf] at hr; cases hr.1
  | .iptr m l, v, hk, hr => by
    simp only [rep, okM] at hr hk ⊢
    obtain ⟨a0, rfl, hs', hfl, hr⟩ := hr
    refine ⟨a0, rfl, hs', fun _ => hf, ?_⟩
    rcases hr with hr | hr
    · exact .inl hr
    right
    intro Z' hZ'
    obtain ⟨Z, hZ, hzz⟩ := hz _ hk Z' hZ'
    obtain ⟨hM, hlo, hb, he⟩ := hr Z hZ
    obtain ⟨g1, g2, g3⟩ := hzz _ hM hlo hb
    exact ⟨g1, g2, lt_of_blk g3 hb, cels_le (C := C.at Z) (C' := C'.at Z') (Cx.Le.inner hs hzz) l _ _ g3 he⟩
  | .nilptr, v, _, hr => by simpa only [rep] using hr
  | .tuple l, v, hk, hr => by
    simp only [rep, okM] at hr hk ⊢
    obtain ⟨cs, rfl, hc⟩ := hr
    exact ⟨cs, rfl, reps_leQ hz hs hf hrf l cs hk hc⟩
  | .fn f l, v, hk, hr => by
    simp only [rep, okM] at hr hk ⊢
    obtain ⟨cs, rfl, hc⟩ := hr
    exact ⟨cs, rfl, reps_leQ hz hs hf hrf l cs hk hc⟩
  | .nilfn, v, _, hr => by simpa only [rep] using hr
  | .iface t d, v, hk, hr => by
    simp only [rep, okM] at hr hk ⊢
    obtain ⟨x, rfl, hx⟩ := hr
    exact ⟨x, rfl, rep_leQ hz hs hf hrf d x hk hx⟩
  | .nilIface, v, _, hr => by simpa only [rep] using hr
  | .mref id, v, _, hr => by simp only [rep] at hr; rw [hrf] at hr; cases hr.1
  | .nilmap, v, _, hr => by simpa only [rep] using hr
  | .when c d, v, hk, hr => by
    simp only [rep, okM] at hr hk ⊢
    exact ⟨fun hc => rep_leQ hz hs hf hrf d v hk (hr.1 hc), hr.2⟩
  | .undef, v, _, _ => by simp only [rep]
theorem reps_leQ {C C' : Cx} {q : Nat → Bool} (hz : ∀ m, q m = true → ∀ Z', C'.zone m = some Z' → ∃ Z, C.zone m = some Z ∧ ∀ b, ¬ C.M b → Z b → b < C.w.heap.size → ¬ C'.M b ∧ Z' b ∧ C'.w.heap[b]? = C.w.heap[b]?) (hs : ∀ b, b < C.w.heap.size → C'.w.shape? b = C.w.shape? b) (hf : C'.fl = true) (hrf : C.rf = false) :
    ∀ (l : List D) (vs : List Value), okML q l = true → reps C l vs → reps C' l vs
  | [], vs, _, hr => by simpa only [reps] using hr
  | d :: ds, vs, hk, hr => by
    simp only [reps, okML, Bool.and_eq_true] at hr hk ⊢
    obtain ⟨v, vs', rfl, h1, h2⟩ := hr
    exact ⟨v, vs', rfl, rep_leQ hz hs hf hrf d v hk.1 h1, reps_leQ hz hs hf hrf ds vs' hk.2 h2⟩
end
end

/-! ## One operation -/
def FrS.put (F : FrS) (dst : Option Nat) (d : D) : FrS := ⟨fun t => bif dst == some t then d else F.rd t, F.hp, F.nu⟩

def FrS.app (F : FrS) (o : Oper) (out : Out) : FrS := (F.eff out.eff out.nw).put o.dst out.d

/-- a function without a body that tells whether two lists lie over each other (slices.overlaps) -/
def Overs (P : Program) (K : FuncId) : Prop := ∀ (w : World) (x y : Addr) (la ca lb cb : Nat) (cx cy : Array Value) (Tx Ty : TypeId), x.block ≠ y.block → x.spot = none → w.heap[x.block]? = some (.cells cx Tx (0, 0)) → w.heap[y.block]? = some (.cells cy Ty (0, 0)) → cy.size ≠ 0 →
  (callFunc K #[.slice (some x) la ca, .slice (some y) lb cb]).run P w = .ok (.value (.bool false)) w

/-- two lists of one's own, in two blocks -/
def ApartD (hp : Nat → Option Blk) (ds : List D) (i j : Nat) : Prop := ∃ s o n c s' o' n' c' e z p l e' z' p' l', ds = [.ref i s o (n + 1) c, .ref j (s' + 1) o' (n' + 1) c'] ∧ hp i = some (.arr e z p l) ∧ hp j = some (.arr e' z' p' l') ∧ i ≠ j

def Core (P : Program) (tab : Nat → TI) (own : Bool) (o : Oper) (F : FrS) (out : Out) : Prop :=
  match o.op with
  | .call c => match c.callee with
    | .value f => ∃ K caps p ds q r, opd true F.rd f = (.fn (.func K) caps, p) ∧ p = true ∧ opds true F.rd c.args.toList = (ds, q) ∧ q = true ∧
        (((lends F.hp (ds ++ caps)).2 = true ∧ CallP P K (lends F.hp (ds ++ caps)).1 r ∧ out = { d := r, vc := true }) ∨
          (∃ H eff nw, CallH P K (ds ++ caps) H r eff nw ∧ (∀ id b, getL H id = some b → F.hp id = some b) ∧ (∀ id, nw.1 ≤ id → id < nw.2 → F.nu id = true) ∧ (∀ x ∈ eff, x.1 ∈ H.map (·.1) ∨ nw.1 ≤ x.1 ∧ x.1 < nw.2) ∧
            out = { d := r, vc := true, eff := eff, nw := nw, met := H.map (·.1) }) ∨
          ∃ i j, Overs P K ∧ ApartD F.hp (ds ++ caps) i j ∧ out = { d := .bool false, vc := true, met := [i, j] })
    | _ => ∃ nid, aop tab own o.op nid true F.rd F.hp = some out ∧ out.vc = true ∧ (out.nw = (nid, nid + 1) → F.nu nid = true)
  | _ => ∃ nid, aop tab own o.op nid true F.rd F.hp = some out ∧ out.vc = true ∧ (out.nw = (nid, nid + 1) → F.nu nid = true)

section
variable {P : Program} {tab : Nat → TI} {own : Bool} {E : En} {n : Nat} {F : FrS} {a : Act} {w : World} {g : Gh}

theorem Rel.put (hR : Rel E n F a w g) {dst : Option Nat} {d : D} {v : Value} (hd : ∀ t, dst = some t → t < n) (h : rep (cx w g F.hp) d v) : Rel E n (F.put dst d) (a.put dst v) w g := by
  refine ⟨?_, ?_, ?_, hR.mem, hR.base, hR.keep, hR.gz, hR.gs, hR.nu⟩
  · cases dst <;> simp [Act.put, hR.sz]
  · cases dst <;> simp [Act.put, hR.df]
  · intro t
    cases dst with
    | none => simpa [FrS.put, Act.put] using hR.rd t
    | some t' =>
      by_cases e : t' = t
      · subst e
        have : t' < a.tmps.size := Nat.lt_of_lt_of_le (hd t' rfl) hR.sz
        simpa [FrS.put, Act.put, Act.eval, this] using h
      · have := hR.rd t
        have e' : (t' == t) = false := by simpa using e
        simpa [FrS.put, Act.put, Act.eval, e', Array.getElem?_setIfInBounds_ne e] using this

theorem resolve_value {ρ : Operand → Value} {c : Call} {ty : TypeId} {f : Operand} {K : FuncId} {caps : List Value} (hc : c.callee = .value f) (hf : ρ f = .func (.func K) #[] caps.toArray) (w : World) :
    (do let d ← resolve ρ c ty; invoke d.target d.args : Sem Next).run P w = (callFunc K ((c.args.toList.map ρ ++ caps).toArray)).run P w := by
  simp only [resolve, hc, hf, Deferred.ofValue, pure_bind, invoke]
  congr 2
  apply Array.ext'; simp

theorem run_enter {K : FuncId} (h : Enters P K) (args : Array Value) (w : World) : (callFunc K args).run P w = .ok (.enter K args) w := by
  obtain ⟨fn, h1, h2, h3⟩ := h
  have h3' : fn.body ≠ none := by intro e; rw [e] at h3; cases h3
  simp [callFunc, h1, h2, h3']

theorem core_sound (hT : TabOk P tab) {o : Oper} {out : Out} (hok : opOk o.op = true) (hd : ∀ t, o.dst = some t → t < n) (hR : Rel E n F a w g) (h : Core P tab own o F out) {K : Act → World → Prop} {Q : Exit → Act → World → Prop}
    (hK : ∀ v w' g', Rel E n (F.app o out) (a.put o.dst v) w' g' → K (a.put o.dst v) w') : o.wp P a w K Q := by
  have plain : (∃ nid, aop tab own o.op nid true F.rd F.hp = some out ∧ out.vc = true ∧ (out.nw = (nid, nid + 1) → F.nu nid = true)) → o.wp P a w K Q := by
    rintro ⟨nid, h1, h2, h3⟩
    obtain ⟨v, w', g', hrun, hrep, hrel⟩ := aop_sound hT hok hR h3 h1 h2
    have := hK v w' g' (Rel.put hrel hd hrep)
    unfold Oper.wp
    rcases hrun with hrun | ⟨hrun, rfl⟩ <;> rw [hrun]
    · exact this
    · exact this
  unfold Core at h
  split at h
  · rename_i c hop
    split at h
    · rename_i f hc
      obtain ⟨k, caps, p, ds, q, r, h1, hp, h2, hq, hcall⟩ := h
      have hx1 : ∀ x ∈ o.op.operands.toList, operandOk x = true := fun x hx => List.all_eq_true.1 hok x hx
      have hmf : f ∈ o.op.operands.toList := by rw [hop]; simp [Op.operands, Call.operands, hc]
      have hma : ∀ x ∈ c.args.toList, x ∈ o.op.operands.toList := by
        intro x hx
        rw [hop]
        simp only [Op.operands, Call.operands, hc, Array.toList_append, List.mem_append]
        exact .inr hx
      have hf := rep_opd hR.rd (hx1 f hmf) h1 hp rfl
      simp only [rep] at hf
      obtain ⟨cv, hfv, hcv⟩ := hf
      have ha := reps_opds hR.rd _ _ _ h2 hq (List.all_eq_true.2 fun x hx => hx1 x (hma x hx))
      have hall := reps_append _ _ _ _ ha hcv
      have hrun : Enters P k → (execOp a.eval o).run P w = .ok (.enter k (c.args.toList.map a.eval ++ cv).toArray) w := by
        intro he
        unfold execOp
        simp only [hop]
        rw [resolve_value hc hfv, run_enter he]
      rcases hcall with ⟨hl, hcall, rfl⟩ | ⟨H, eff, nw, hcall, hH, hnw, _, rfl⟩ | ⟨i, j, hov, hap, rfl⟩
      · have hargs := lends_ok w.heap.size hR (ds ++ caps) _ hall hl
        have hC := hcall.2 w _ hargs
        unfold Oper.wp
        rw [hrun hcall.1]
        refine Calls.mono hC ?_
        rintro e w' ⟨v, rfl, hkeep, hnew, hrep⟩
        refine hK v w' g ?_
        have hrel := Rel.ext hR hkeep
        unfold FrS.app
        simp only [eff_none]
        refine Rel.put hrel hd ?_
        refine rep_leQ (C := cx0 w' w.heap.size) (C' := cx w' g F.hp) (q := new1) ?_ (fun _ _ => rfl) rfl rfl r v hnew hrep
        intro m hm Z' hZ'
        have hm : m = 1 := Nat.eq_of_beq_eq_true hm
        subst hm
        obtain ⟨Z1, k1, k2, k3⟩ := hR.mem.zs.z1
        have : Z' = Z1 := by
          have : g.zn 1 = some Z' := by simpa [Cx.zone, cx] using hZ'
          rw [k1] at this
          exact (Option.some.inj this).symm
        subst this
        refine ⟨fun b => w.heap.size ≤ b, by simp [Cx.zone, cx0], fun b _ hb _ => ⟨?_, k3 b hb, rfl⟩⟩
        intro hM
        have := hR.mem.own_lt hM
        omega
      · have hC := hcall.2 E.fr w g F.hp F.nu _ hR.mem hH hnw hall
        unfold Oper.wp
        rw [hrun hcall.1]
        refine Calls.mono hC ?_
        rintro e w' ⟨v, g', rfl, hA⟩
        refine hK v w' g' ?_
        have hs : ∀ id, g.σ id ≠ none → g'.σ id = g.σ id := by
          intro id h
          refine hA.gs id ?_
          cases hb : F.nu id
          · rfl
          · exact absurd (hR.mem.nw id hb).1 h
        have hle : Cx.Le (cx w g F.hp) (cx w' g' (effH F.hp eff)) := Mem.le hA.keep hA.gz.1 hA.gz.2 hs hA.own
        unfold FrS.app
        refine Rel.put ⟨hR.sz, hR.df, fun t => rep_le hle _ _ (hR.rd t), hA.mem, ?_, ?_, ⟨hA.gz.1.trans hR.gz.1, hA.gz.2.trans hR.gz.2⟩, ?_, ?_⟩ hd hA.res
        · intro id b o h1 h2
          rcases hA.own b ⟨id, o, h1, h2⟩ with h | ⟨id', o', h3, h4⟩
          · exact .inl (Nat.le_trans hR.keep.size h)
          · exact hR.base id' b o' h3 h4
        · refine hR.keep.trans (hA.keep.mono ?_)
          rintro b hb ⟨id, o, _, h1, h2⟩
          rcases hR.base id b o h1 h2 with h | h
          · exact .inr h
          · exact .inl h
        · intro id h
          have hf : F.nu id = false := by
            cases hb : F.nu id
            · rfl
            · rw [hR.nu id hb] at h; cases h
          rw [hA.gs id hf, hR.gs id h]
        · intro id h
          simp only [FrS.eff, effN, Bool.and_eq_true] at h
          exact hR.nu id h.1
      · obtain ⟨s, o', n', c', s', o2, n2, c2, e, z, pp, l, e', z', pp', l', hds, hb1, hb2, hij⟩ := hap
        rw [hds] at hall
        simp only [reps] at hall
        obtain ⟨v1, _, hvs, h3, v2, _, rfl, h4, rfl⟩ := hall
        simp only [rep] at h3 h4
        obtain ⟨_, ad1, cap1, rfl, m1, _, _, _, m4⟩ := h3
        obtain ⟨_, ad2, cap2, rfl, k1, _, _, _, k4⟩ := h4
        rcases m4 with m4 | ⟨b1, T1, nn1, hσ1, rfl, hsh1, hnn1⟩
        · omega
        rcases k4 with k4 | ⟨b2, T2, nn2, hσ2, rfl, hsh2, hnn2⟩
        · omega
        have row : ∀ {i b e z pp l T nn}, F.hp i = some (.arr e z pp l) → g.σ i = some (b, 0) → w.shape? b = some (T, nn) → ∃ cs, w.heap[b]? = some (.cells cs e (0, 0)) ∧ cs.size = nn := by
          intro i b e z pp l T nn hb hσ hsh
          rcases hR.mem.hd i _ hb with ⟨_, h⟩ | ⟨b', cs, hσ', hblk, _, _⟩
          · have h : g.σ i = none := h
            rw [hσ] at h; cases h
          · have e0 := hσ'.symm.trans hσ
            simp only [Option.some.injEq, Prod.mk.injEq] at e0
            obtain ⟨rfl, _⟩ := e0
            have hblk' : w.heap[b']? = some (.cells cs e (0, 0)) := hblk
            refine ⟨cs, hblk', ?_⟩
            have : w.shape? b' = some (e, cs.size) := by simp [World.shape?, hblk']
            rw [hsh] at this
            simp only [Option.some.injEq, Prod.mk.injEq] at this
            exact this.2.symm
        obtain ⟨cs1, q1, q2⟩ := row hb1 hσ1 hsh1
        obtain ⟨cs2, q3, q4⟩ := row hb2 hσ2 hsh2
        have hne : b1 ≠ b2 := by
          intro hbb
          subst hbb
          exact hij (hR.mem.inj i j b1 0 0 (by rw [hb1]; simp) (by rw [hb2]; simp) hσ1 hσ2)
        have hrun2 : (execOp a.eval o).run P w = .ok (.value (.bool false)) w := by
          unfold execOp
          simp only [hop]
          rw [resolve_value hc hfv, hvs]
          refine hov w ⟨b1, o' * s, none⟩ ⟨b2, o2 * (s' + 1), none⟩ _ _ _ _ cs1 cs2 e e' hne rfl q1 q3 ?_
          rw [q4]
          have : 1 * 1 ≤ cap2 * (s' + 1) := Nat.mul_le_mul (by omega) (by omega)
          omega
        have := hK (.bool false) w g (by
          unfold FrS.app
          simp only [eff_none]
          exact Rel.put hR hd (by simp only [rep]))
        unfold Oper.wp
        rw [hrun2]
        exact this
    · exact plain h
  · exact plain h

/-! ## A guarded operation -/
def gval (want : Bool) : D → Option Bool
  | .bool b => some (b == want)
  | .when c (.bool b) => some (c && (b == want))
  | .when false _ => some false
  | _ => none

def gslot (ops : Array Oper) (j : Nat) : Option Nat := (ops[j]?).bind (·.dst)

/-- the operation at a place does that -/
def Fires (P : Program) (tab : Nat → TI) (own : Bool) (ops : Array Oper) (o : Oper) (F : FrS) (out : Out) : Prop :=
  match o.guard with
  | none => Core P tab own o F out
  | some (j, want) => ∃ t g out0, gslot ops j = some t ∧ gval want (F.rd t) = some g ∧ (g = true → Core P tab own o F out0) ∧ out = { d := .when g out0.d, vc := true, eff := bif g then out0.eff else [], nw := bif g then out0.nw else (0, 0), met := out0.met }

theorem wanted_of {C : Cx} {ops : Array Oper} {o : Oper} {j t : Nat} {want g : Bool} {d : D} (hg : o.guard = some (j, want)) (ht : gslot ops j = some t) (hlt : t < a.tmps.size) (hr : rep C d (a.eval (.tmp t))) (hv : gval want d = some g) :
    Region.wanted o (yielded ops a.tmps) = g := by
  have hy : ∀ b, a.eval (.tmp t) = .bool b → yielded ops a.tmps j = some b := by
    intro b hb
    simp only [Act.eval, Array.getD, hlt, dite_true] at hb
    unfold gslot at ht
    simp only [yielded, ht, Option.bind_some, Array.getElem?_eq_getElem hlt]
    rw [show a.tmps[t] = Value.bool b from hb]
  unfold Region.wanted
  simp only [hg]
  cases d <;> simp only [gval, Option.some.injEq, reduceCtorEq] at hv
  · rename_i b
    simp only [rep] at hr
    rw [hy b hr, ← hv]
    cases b <;> cases want <;> rfl
  · rename_i c d
    simp only [rep] at hr
    cases c with
    | true =>
      cases d <;> simp only [Bool.true_and, Option.some.injEq, reduceCtorEq] at hv
      rename_i b
      have hb := hr.1 rfl
      simp only [rep] at hb
      rw [hy b hb, ← hv]
      cases b <;> cases want <;> rfl
    | false =>
      have hg0 : g = false := by
        cases d <;> simp only [Bool.false_and, Option.some.injEq] at hv <;> exact hv.symm
      have hu := hr.2 rfl
      have : yielded ops a.tmps j = none := by
        simp only [Act.eval, Array.getD, hlt, dite_true] at hu
        unfold gslot at ht
        simp only [yielded, ht, Option.bind_some, Array.getElem?_eq_getElem hlt]
        rw [show a.tmps[t] = undef from hu]
        rfl
      rw [this, hg0]
      rfl

theorem fires_sound (hT : TabOk P tab) {ops : Array Oper} {i : Nat} {o : Oper} {out : Out} (hi : ops[i]? = some o) (hok : opOk o.op = true) (hd : ∀ t, o.dst = some t → t < n) (hg : ∀ j w t, o.guard = some (j, w) → gslot ops j = some t → t < n)
    (hR : Rel E n F a w g) (h : Fires P tab own ops o F out) {K : Act → World → Prop} {Q : Exit → Act → World → Prop}
    (hK : ∀ v w' g', Rel E n (F.app o out) (a.put o.dst v) w' g' → K (a.put o.dst v) w') : wpOp P ops Q i K a w := by
  unfold wpOp
  simp only [hi]
  unfold Fires at h
  split at h
  · rename_i hgd
    have : Region.wanted o (yielded ops a.tmps) = true := by simp [Region.wanted, hgd]
    rw [this]
    simp only [if_true]
    exact .inl (core_sound hT hok hd hR h hK)
  · rename_i j want hgd
    obtain ⟨t, gb, out0, ht, hv, hcore, rfl⟩ := h
    have hlt : t < a.tmps.size := Nat.lt_of_lt_of_le (hg j want t hgd ht) hR.sz
    rw [wanted_of hgd ht hlt (hR.rd t) hv]
    cases gb with
    | true =>
      simp only [if_true]
      refine .inl (core_sound hT hok hd hR (hcore rfl) ?_)
      intro v w' g' hrel
      refine hK v w' g' ?_
      simp only [cond_true]
      refine ⟨hrel.sz, hrel.df, fun t' => ?_, hrel.mem, hrel.base, hrel.keep, hrel.gz, hrel.gs, hrel.nu⟩
      have := hrel.rd t'
      simp only [FrS.app, FrS.put, FrS.eff] at this ⊢
      cases hh : o.dst == some t'
      · simpa [hh] using this
      · simp only [hh, cond_true] at this ⊢
        simp only [rep]
        exact ⟨fun _ => this, fun h => by cases h⟩
    | false =>
      simp only [Bool.false_eq_true, if_false]
      refine hK undef w g ?_
      simp only [FrS.app, cond_false, eff_none]
      exact Rel.put hR hd (by simp only [rep]; exact ⟨(fun h => by cases h), fun _ => trivial⟩)

def opsOk (n : Nat) (ops : Array Oper) : Bool :=
  ops.toList.all fun o => opOk o.op && (match o.dst with | some t => decide (t < n) | none => true) && (match o.guard with | some (j, _) => (match gslot ops j with | some t => decide (t < n) | none => true) | none => true)

theorem opsOk_at {ops : Array Oper} (h : opsOk n ops = true) {i : Nat} {o : Oper} (hi : ops[i]? = some o) : opOk o.op = true ∧ (∀ t, o.dst = some t → t < n) ∧ ∀ j w t, o.guard = some (j, w) → gslot ops j = some t → t < n := by
  have hm : o ∈ ops.toList := by
    have : ops.toList[i]? = some o := by simpa using hi
    exact List.mem_of_getElem? this
  have := List.all_eq_true.1 h o hm
  simp only [Bool.and_eq_true] at this
  obtain ⟨⟨h1, h2⟩, h3⟩ := this
  refine ⟨h1, fun t ht => ?_, fun j w t hg ht => ?_⟩
  · rw [ht] at h2; simpa using h2
  · rw [hg] at h3; simp only [ht] at h3; simpa using h3
end
end Go.Tm

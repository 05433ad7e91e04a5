/- Texts of the proof. -/
import Derived.Test.YtdoegejmepcmpaaGreatChecked
import Derived.KernelRfl
import Derived.Lib.Overlaps
import Derived.Test.YtdoegejmepcmpaaGreatDecreeMovesPe
section
namespace Go.Tm
open Go.RowKit Go.WideShapes
mutual
def D.ren (f : Nat -> Nat) : D -> D
 | .agg l => .agg (D.renL f l)
 | .ref id s off len oc => .ref (f id) s off len oc
 | .ptr id off => .ptr (f id) off
 | .eptr id s i off => .eptr (f id) s i off
 | .mref id => .mref (f id)
 | .tuple l => .tuple (D.renL f l)
 | .fn g l => .fn g (D.renL f l)
 | .iface t d => .iface t (D.ren f d)
 | .when c d => .when c (D.ren f d)
 | d => d
def D.renL (f : Nat -> Nat) : List D -> List D
 | [] => []
 | d :: ds => D.ren f d :: D.renL f ds
end
def zsf (f : Nat -> Nat) : List (D × D) -> List (D × D)
 | [] => []
 | x :: xs => (x.1.ren f, x.2.ren f) :: zsf f xs
def Blk.ren (f : Nat -> Nat) : Blk -> Blk
 | .box cells => .box (D.renL f cells)
 | .arr e s p items => .arr e s p (bif p then items else D.renL f items)
 | .map es => .map (zsf f es)
def ya0s : List (D × D) -> List Nat
 | [] => []
 | x :: xs => x.1.ids ++ x.2.ids ++ ya0s xs
def Blk.ids : Blk -> List Nat
 | .box cells => D.idsL cells
 | .arr _ _ p items => bif p then [] else D.idsL items
 | .map es => ya0s es
structure Mv (f : Nat -> Nat) (L : Nat -> Prop) (C C' : Cx) : Prop where
 w : C'.w = C.w
 Z : C'.Z = C.Z
 zn : C'.zn = C.zn
 fl : C'.fl = C.fl
 rf : C'.rf = C.rf
 M : ∀ b, C'.M b -> C.M b
 s : ∀ i, L i -> C'.σ (f i) = C.σ i
theorem Mv.zone {f L C C'} (h : Mv f L C C') (m : Nat) : C'.zone m = C.zone m := by
 unfold Cx.zone; rw [h.Z, h.zn]
theorem Mv.inner {f L C C'} (h : Mv f L C C') (Z : Nat -> Prop) : (C.at Z).Le (C'.at Z) :=
 Cx.Le.inner (fun _ _ => by rw [h.w]) fun b k1 k2 _ => ⟨fun hm => k1 (h.M b hm), k2, by rw [h.w]⟩
theorem Mv.noref {f : Nat -> Nat} {L C C'} (h : Mv f L C C') (q : Bool) : Mv f L { C with rf := q } { C' with rf := q } := ⟨h.w, h.Z, h.zn, h.fl, rfl, h.M, h.s⟩
mutual
theorem zp6 {f : Nat -> Nat} {L : Nat -> Prop} {C C' : Cx} (h : Mv f L C C') : ∀ (d : D) (v : Value), (∀ i ∈ d.ids, L i) -> rep C d v -> rep C' (d.ren f) v
 | .bool b, v, _, hr => by simpa only [rep, D.ren] using hr
 | .int k n, v, _, hr => by simpa only [rep, D.ren] using hr
 | .str l, v, _, hr => by simpa only [rep, D.ren] using hr
 | .agg l, v, hi, hr => by
  simp only [rep, D.ren, D.ids] at hr hi ⊢
  obtain ⟨cs, rfl, hc⟩ := hr
  exact ⟨cs, rfl, zof h l cs hi hc⟩
 | .imm s l c, v, _, hr => by
  simp only [rep, D.ren] at hr ⊢
  obtain ⟨a, cap, rfl, h1, h2, h3, h4, h5, h6, hfl, h7⟩ := hr
  refine ⟨a, cap, rfl, h1, h2, h3, h4, h5, h6, fun x => by rw [h.fl]; exact hfl x, ?_⟩
  rcases h7 with h7 | h7
  exact .inl h7
  right
  intro Z' hZ'
  rw [h.zone] at hZ'
  obtain ⟨a0, ha, hs, hM, hlo, hb, he⟩ := h7 Z' hZ'
  exact ⟨a0, ha, hs, fun hm => hM (h.M _ hm), hlo, by rw [h.w]; exact hb, zfp (h.inner Z') l _ _ _ (by show C'.w.heap[_]? = C.w.heap[_]?; rw [h.w]) he⟩
 | .ref id s off len oc, v, hi, hr => by
  simp only [rep, D.ren, D.ids, List.mem_singleton, forall_eq] at hr hi ⊢
  obtain ⟨h0, a, cap, rfl, h1, h2, h3, hoc, h4⟩ := hr
  have hs := h.s id hi
  refine ⟨by rw [h.rf]; exact h0, a, cap, rfl, h1, h2, h3, ⟨hoc.1, fun ho => ?_⟩, ?_⟩
  obtain ⟨b, T, n, k1, k2, k3⟩ := hoc.2 ho
  exact ⟨b, T, n, by rw [hs]; exact k1, by rw [h.w]; exact k2, k3⟩
  rcases h4 with h4 | ⟨b, T, n, k1, k2, k3, k4⟩
  exact .inl h4
  exact .inr ⟨b, T, n, by rw [hs]; exact k1, k2, by rw [h.w]; exact k3, k4⟩
 | .ptr id off, v, hi, hr => by
  simp only [rep, D.ren, D.ids, List.mem_singleton, forall_eq] at hr hi ⊢
  obtain ⟨h0, b, o, hσ, rfl⟩ := hr
  exact ⟨by rw [h.rf]; exact h0, b, o, by rw [h.s id hi]; exact hσ, rfl⟩
 | .eptr id s i off, v, hi, hr => by
  simp only [rep, D.ren, D.ids, List.mem_singleton, forall_eq] at hr hi ⊢
  obtain ⟨h0, hs0, b, o, hσ, rfl⟩ := hr
  exact ⟨by rw [h.rf]; exact h0, hs0, b, o, by rw [h.s id hi]; exact hσ, rfl⟩
 | .iptr m l, v, _, hr => by
  simp only [rep, D.ren] at hr ⊢
  obtain ⟨a0, rfl, hs, hfl, hr⟩ := hr
  refine ⟨a0, rfl, hs, fun x => by rw [h.fl]; exact hfl x, ?_⟩
  rcases hr with hr | hr
  exact .inl hr
  right
  intro Z' hZ'
  rw [h.zone] at hZ'
  obtain ⟨hM, hlo, hb, he⟩ := hr Z' hZ'
  exact ⟨fun hm => hM (h.M _ hm), hlo, by rw [h.w]; exact hb, zor (h.inner Z') l _ _ (by show C'.w.heap[_]? = C.w.heap[_]?; rw [h.w]) he⟩
 | .nilptr, v, _, hr => by simpa only [rep, D.ren] using hr
 | .tuple l, v, hi, hr => by
  simp only [rep, D.ren, D.ids] at hr hi ⊢
  obtain ⟨cs, rfl, hc⟩ := hr
  exact ⟨cs, rfl, zof h l cs hi hc⟩
 | .fn g l, v, hi, hr => by
  simp only [rep, D.ren, D.ids] at hr hi ⊢
  obtain ⟨cs, rfl, hc⟩ := hr
  exact ⟨cs, rfl, zof h l cs hi hc⟩
 | .nilfn, v, _, hr => by simpa only [rep, D.ren] using hr
 | .iface t d, v, hi, hr => by
  simp only [rep, D.ren, D.ids] at hr hi ⊢
  obtain ⟨x, rfl, hx⟩ := hr
  exact ⟨x, rfl, zp6 h d x hi hx⟩
 | .nilIface, v, _, hr => by simpa only [rep, D.ren] using hr
 | .mref id, v, hi, hr => by
  simp only [rep, D.ren, D.ids, List.mem_singleton, forall_eq] at hr hi ⊢
  obtain ⟨h0, b, o, hσ, rfl⟩ := hr
  exact ⟨by rw [h.rf]; exact h0, b, o, by rw [h.s id hi]; exact hσ, rfl⟩
 | .nilmap, v, _, hr => by simpa only [rep, D.ren] using hr
 | .sc, v, _, hr => by simpa only [rep, D.ren] using hr
 | .when c d, v, hi, hr => by
  simp only [rep, D.ren, D.ids] at hr hi ⊢
  exact ⟨fun hc => zp6 h d v hi (hr.1 hc), hr.2⟩
 | .undef, v, _, _ => by simp only [rep, D.ren]
theorem zof {f : Nat -> Nat} {L : Nat -> Prop} {C C' : Cx} (h : Mv f L C C') : ∀ (l : List D) (vs : List Value), (∀ i ∈ D.idsL l, L i) -> reps C l vs -> reps C' (D.renL f l) vs
 | [], vs, _, hr => by simpa only [reps, D.renL] using hr
 | d :: ds, vs, hi, hr => by
  simp only [reps, D.renL, D.idsL, List.mem_append] at hr hi ⊢
  obtain ⟨v, vs', rfl, h1, h2⟩ := hr
  exact ⟨v, vs', rfl, zp6 h d v (fun i k => hi i (.inl k)) h1, zof h ds vs' (fun i k => hi i (.inr k)) h2⟩
end
theorem zwr {f : Nat -> Nat} {L : Nat -> Prop} {C C' : Cx} (h : Mv f L C C') : ∀ (l : List D) (b o s : Nat), (∀ i ∈ D.idsL l, L i) -> elems C l b o s -> elems C' (D.renL f l) b o s
 | [], _, _, _, _, _ => by simp only [elems, D.renL]
 | d :: ds, b, o, s, hi, hr => by
  simp only [elems, D.renL, D.idsL, List.mem_append] at hr hi ⊢
  obtain ⟨⟨v, h1, h2, h2', h3⟩, h4⟩ := hr
  exact ⟨⟨v, zp6 h d v (fun i k => hi i (.inl k)) h1, h2, h2', by rw [h.w]; exact h3⟩, zwr h ds b (o + s) s (fun i k => hi i (.inr k)) h4⟩
theorem zzp {f : Nat -> Nat} {L : Nat -> Prop} {C C' : Cx} (h : Mv f L C C') : ∀ (l : List (D × D)) (es : List MapEntry), (∀ i ∈ ya0s l, L i) -> zfv C l es -> zfv C' (zsf f l) es
 | [], es, _, hr => by simpa only [zfv, zsf] using hr
 | x :: xs, es, hi, hr => by
  simp only [zfv, zsf, ya0s, List.mem_append] at hr hi ⊢
  obtain ⟨e, es', rfl, ⟨h1, h2⟩, h3⟩ := hr
  exact ⟨e, es', rfl, ⟨zp6 h _ _ (fun i k => hi i (.inl (.inl k))) h1, zp6 h _ _ (fun i k => hi i (.inl (.inr k))) h2⟩, zzp h xs es' (fun i k => hi i (.inr k)) h3⟩
theorem zwh {f : Nat -> Nat} {L : Nat -> Prop} {C C' : Cx} (h : Mv f L C C') {id : Nat} {blk : Blk} (hid : L id) (hi : ∀ i ∈ blk.ids, L i) (hr : holds C id blk) : holds C' (f id) (blk.ren f) := by
 have hs := h.s id hid
 cases blk with
 | box cells =>
  obtain ⟨b, cs, T, h1, h2, h3, h4⟩ := hr
  exact ⟨b, cs, T, by rw [hs]; exact h1, by rw [h.w]; exact h2, zof h _ _ hi h3, h4⟩
 | arr e s p items =>
  rcases hr with ⟨h1, h2⟩ | ⟨b, cs, h1, h2, h3, h4⟩
  left
  refine ⟨?_, by rw [hs]; exact h2⟩
  subst h1; cases p <;> rfl
  right
  refine ⟨b, cs, by rw [hs]; exact h1, by rw [h.w]; exact h2, ?_⟩
  cases p with
  | true =>
   refine ⟨h3, ?_⟩
   refine zfp (C := { C with rf := !true }) (C' := { C' with rf := !true }) ⟨fun m _ Z' hZ' => ?_, fun _ _ => by rw [h.w], fun hf => by show C'.fl = true; rw [h.fl]; exact hf, (fun hf => by cases hf), (fun hf => by cases hf)⟩ _ _ _ _ (by rw [h.w]) h4
   have hZ2 : C.zone m = some Z' := by rw [<- h.zone]; exact hZ'
   exact ⟨Z', hZ2, fun b k1 k2 k3 => ⟨fun hm => k1 (h.M b hm), k2, by rw [h.w]; exact .refl k3⟩⟩
  | false =>
   simp only [cond_false]
   have hl : ∀ l : List D, (D.renL f l).length = l.length := by intro l; induction l with | nil => rfl | cons d ds ih => simp only [D.renL, List.length_cons, ih]
   exact ⟨by rw [hl]; exact h3, zwr (h.noref _) _ _ _ _ (by simpa only [Blk.ids, cond_false] using hi) h4⟩
 | map es =>
  obtain ⟨b, ens, clock, h1, h2, h3⟩ := hr
  exact ⟨b, ens, clock, by rw [hs]; exact h1, by rw [h.w]; exact h2, zzp h _ _ hi h3⟩
def mvF (ps : List (Nat × Nat)) (i : Nat) : Nat := match getL ps i with
 | some j => j
 | none => i
def mvV (f : Nat -> Nat) : List (Nat × D) -> List (Nat × D)
 | [] => []
 | (t, d) :: r => (t, d.ren f) :: mvV f r
def mvH (f : Nat -> Nat) : List (Nat × Blk) -> List (Nat × Blk)
 | [] => []
 | (i, b) :: r => (f i, b.ren f) :: mvH f r
def idsV : List (Nat × D) -> List Nat
 | [] => []
 | (_, d) :: r => d.ids ++ idsV r
def idsH : List (Nat × Blk) -> List Nat
 | [] => []
 | (i, b) :: r => i :: (b.ids ++ idsH r)
def mvOk (ps : List (Nat × Nat)) (n0 n1 : Nat) : List Nat -> Bool
 | [] => true
 | i :: r => (bif Nat.blt i n0 then Nat.beq (mvF ps i) i || (Nat.ble n0 (mvF ps i) && Nat.blt (mvF ps i) n1) else Nat.ble n0 (mvF ps i) && Nat.blt (mvF ps i) n1) && (r.all fun j => Nat.beq i j || !(Nat.beq (mvF ps i) (mvF ps j))) && mvOk ps n0 n1 r
theorem zz5 {ps : List (Nat × Nat)} {n0 n1 : Nat} : ∀ {l : List Nat}, mvOk ps n0 n1 l = true -> (∀ i ∈ l, (mvF ps i = i /\ i < n0) \/ (n0 <= mvF ps i /\ mvF ps i < n1)) /\ ∀ i ∈ l, ∀ j ∈ l, mvF ps i = mvF ps j -> i = j
 | [], _ => ⟨(fun _ h => by cases h), (fun _ h => by cases h)⟩
 | i :: r, h => by
  simp only [mvOk, Bool.and_eq_true] at h
  obtain ⟨⟨h1, h2⟩, h3⟩ := h
  obtain ⟨k1, k2⟩ := zz5 h3
  have e1 : (mvF ps i = i /\ i < n0) \/ (n0 <= mvF ps i /\ mvF ps i < n1) := by
   cases hb : Nat.blt i n0
   rw [hb] at h1
   simp only [cond_false, Bool.and_eq_true] at h1
   exact .inr ⟨lb h1.1, lb h1.2⟩
   rw [hb] at h1
   simp only [cond_true, Bool.or_eq_true, Bool.and_eq_true] at h1
   rcases h1 with h1 | h1
   exact .inl ⟨nb h1, lb hb⟩
   exact .inr ⟨lb h1.1, lb h1.2⟩
  have e2 : ∀ j ∈ r, mvF ps i = mvF ps j -> i = j := by
   intro j hj he
   have := List.all_eq_true.1 h2 j hj
   simp only [Bool.or_eq_true, Bool.not_eq_true'] at this
   rcases this with h | h
   exact nb h
   rw [he, Nat.beq_refl] at h; cases h
  refine ⟨fun x hx => ?_, fun x hx y hy he => ?_⟩
  rcases List.mem_cons.1 hx with rfl | hx
  exact e1
  exact k1 x hx
  rcases List.mem_cons.1 hx with hx | hx <;> rcases List.mem_cons.1 hy with hy | hy
  rw [hx, hy]
  rw [hx] at he ⊢; exact e2 y hy he
  rw [hy] at he ⊢; exact (e2 x hx he.symm).symm
  exact k2 x hx y hy he
theorem zwj {f : Nat -> Nat} : ∀ (l : List (Nat × D)) (t : Nat), getL (mvV f l) t = (getL l t).map (D.ren f)
 | [], _ => rfl
 | (a, d) :: r, t => by
  simp only [mvV, getL]
  cases Nat.beq a t
  simp only [cond_false]; exact zwj r t
  rfl
theorem zwd : ∀ {l : List (Nat × D)} {t : Nat} {d : D}, getL l t = some d -> ∀ i ∈ d.ids, i ∈ idsV l
 | (a, x) :: r, t, d, h, i, hi => by
  simp only [getL] at h
  simp only [idsV, List.mem_append]
  cases hb : Nat.beq a t
  rw [hb] at h; exact .inr (zwd h i hi)
  rw [hb] at h; cases h; exact .inl hi
theorem zwe : ∀ {l : List (Nat × Blk)} {t : Nat} {b : Blk}, getL l t = some b -> t ∈ idsH l /\ ∀ i ∈ b.ids, i ∈ idsH l
 | (a, x) :: r, t, b, h => by
  simp only [getL] at h
  simp only [idsH, List.mem_cons, List.mem_append]
  cases hb : Nat.beq a t
  rw [hb] at h
  obtain ⟨h1, h2⟩ := zwe h
  exact ⟨.inr (.inr h1), fun i hi => .inr (.inr (h2 i hi))⟩
  rw [hb] at h; cases h
  exact ⟨.inl (nb hb).symm, fun i hi => .inr (.inl hi)⟩
theorem zwk {f : Nat -> Nat} : ∀ (l : List (Nat × Blk)), (∀ i ∈ idsH l, ∀ j ∈ idsH l, f i = f j -> i = j) -> ∀ (t : Nat) (b : Blk), getL (mvH f l) t = some b -> ∃ i b0, getL l i = some b0 /\ f i = t /\ b = b0.ren f
 | [], _, _, _, h => by cases h
 | (a, x) :: r, hinj, t, b, h => by
  simp only [mvH, getL] at h
  cases hb : Nat.beq (f a) t
  rw [hb] at h
  obtain ⟨i, b0, h1, h2, h3⟩ := zwk r (fun i hi j hj => hinj i (by simp [idsH, hi]) j (by simp [idsH, hj])) t b h
  refine ⟨i, b0, ?_, h2, h3⟩
  simp only [getL]
  cases hc : Nat.beq a i
  exact h1
  have := nb hc
  subst this
  rw [h2] at hb
  simp at hb
  rw [hb] at h
  cases h
  exact ⟨a, x, by simp [getL], nb hb, rfl⟩
section
variable {E : En} {n lim : Nat} {F : FrS} {a : Act} {w : World} {g : Gh} {st : St}
theorem Rel.move (hF : F.on lim st) (h : Rel E n F a w g) (ps : List (Nat × Nat)) (n0 n1 : Nat) (hn0 : n0 <= n1) (hn1 : n1 <= lim) (hE : ∀ id, n0 <= id -> id < lim -> E.nu0 id = true) (hok : mvOk ps n0 n1 (idsV st.vars ++ idsH st.heap) = true) :
  ∃ F' g', F'.on lim ⟨mvV (mvF ps) st.vars, mvH (mvF ps) st.heap, n1⟩ /\ Rel E n F' a w g' := by
 obtain ⟨h1, h2, h3⟩ := hF
 obtain ⟨hp, hinj⟩ := zz5 hok
 let L : Nat -> Prop := fun i => i ∈ idsV st.vars ++ idsH st.heap
 classical
 let σ' : Nat -> Option (Nat × Nat) := fun j => if n0 <= j /\ j < lim then (if hx : ∃ i, L i /\ mvF ps i = j then g.σ hx.choose else none) else g.σ j
 have hs : ∀ i, L i -> σ' (mvF ps i) = g.σ i := by
  intro i hi
  show (if _ then _ else _) = _
  rcases hp i hi with ⟨k1, k2⟩ | ⟨k1, k2⟩
  rw [if_neg (by rw [k1]; omega), k1]
  rw [if_pos ⟨k1, by omega⟩]
  have hx : ∃ i', L i' /\ mvF ps i' = mvF ps i := ⟨i, hi, rfl⟩
  rw [dif_pos hx, hinj _ hx.choose_spec.1 _ hi hx.choose_spec.2]
 let g' : Gh := ⟨σ', g.Z, g.zn⟩
 let hp' : Nat -> Option Blk := getL (mvH (mvF ps) st.heap)
 have hH : ∀ id blk, hp' id = some blk -> ∃ i b0, getL st.heap i = some b0 /\ mvF ps i = id /\ blk = b0.ren (mvF ps) /\ L i /\ ∀ k ∈ b0.ids, L k := by
  intro id blk hb
  obtain ⟨i, b0, e1, e2, e3⟩ := zwk st.heap (fun i hi j hj => hinj i (List.mem_append_right _ hi) j (List.mem_append_right _ hj)) id blk hb
  obtain ⟨m1, m2⟩ := zwe e1
  exact ⟨i, b0, e1, e2, e3, List.mem_append_right _ m1, fun k hk => List.mem_append_right _ (m2 k hk)⟩
 have hlive : ∀ id, hp' id ≠ none -> ∃ i, F.hp i ≠ none /\ mvF ps i = id /\ L i := by
  intro id hid
  obtain ⟨b, hb⟩ := Option.ne_none_iff_exists'.1 hid
  obtain ⟨i, b0, e1, e2, _, e4, _⟩ := hH id b hb
  exact ⟨i, by rw [h2, e1]; simp, e2, e4⟩
 have hM : ∀ b, ownB g' hp' b -> ownB g F.hp b := by
  rintro b ⟨id, o, k1, k2⟩
  obtain ⟨i, e1, rfl, e3⟩ := hlive id k1
  have k2 : σ' (mvF ps i) = some (b, o) := k2
  rw [hs i e3] at k2
  exact ⟨i, o, e1, k2⟩
 have hmv : Mv (mvF ps) L (cx w g F.hp) (cx w g' hp') := ⟨rfl, rfl, rfl, rfl, rfl, hM, hs⟩
 let nu' : Nat -> Bool := fun id => decide (n1 <= id) && decide (id < lim)
 refine ⟨⟨getR (mvV (mvF ps) st.vars), hp', nu'⟩, g', ⟨rfl, rfl, fun id k1 k2 => by simp [nu', show n1 <= id from k1, k2]⟩, ⟨h.sz, h.df, fun t => ?_, ?_, ?_, h.keep, h.gz, ?_, ?_⟩⟩
 have hr := h.rd t
 show rep (cx w g' hp') (getR (mvV (mvF ps) st.vars) t) _
 rw [h1] at hr
 unfold getR at hr ⊢
 rw [zwj]
 cases hg : getL st.vars t with
 | none => simp only [Option.map_none, rep]
 | some d =>
  rw [hg] at hr
  exact zp6 hmv d _ (fun i hi => List.mem_append_left _ (zwd hg i hi)) hr
 refine ⟨fun id blk hb => ?_, fun id id' b o o' k1 k2 k3 k4 => ?_, fun id hid => ?_, ?_, h.mem.fl⟩
 obtain ⟨i, b0, e1, rfl, rfl, e4, e5⟩ := hH id blk hb
 exact zwh hmv e4 e5 (h.mem.hd i b0 (by rw [h2]; exact e1))
 obtain ⟨i, e1, rfl, e3⟩ := hlive id k1
 obtain ⟨i', e1', rfl, e3'⟩ := hlive id' k2
 have k3 : σ' (mvF ps i) = some (b, o) := k3
 have k4 : σ' (mvF ps i') = some (b, o') := k4
 rw [hs i e3] at k3
 rw [hs i' e3'] at k4
 rw [h.mem.inj i i' b o o' e1 e1' k3 k4]
 simp only [nu', Bool.and_eq_true, decide_eq_true_eq] at hid
 have hno : ¬ ∃ i, L i /\ mvF ps i = id /\ n0 <= id := by
  rintro ⟨i, e1, rfl, e3⟩
  rcases hp i e1 with ⟨e4, e5⟩ | ⟨_, e5⟩ <;> omega
 by_cases hb : n0 <= id
 refine ⟨?_, ?_⟩
 show (if _ then _ else _) = _
 rw [if_pos ⟨hb, hid.2⟩, dif_neg (fun ⟨i, e1, e2⟩ => hno ⟨i, e1, e2, hb⟩)]
 cases hh : hp' id with
 | none => exact hh
 | some blk =>
  obtain ⟨i, b0, _, e2, _, e4, _⟩ := hH id blk hh
  exact absurd ⟨i, e4, e2, hb⟩ hno
 omega
 refine ⟨h.mem.zs.z0, h.mem.zs.z1, h.mem.zs.z2, fun m Zm hm hz b hb => ?_, fun b hb => h.mem.zs.zo b (hM b hb)⟩
 obtain ⟨e1, e2, e3, e4, e5⟩ := h.mem.zs.zr m Zm hm hz b hb
 exact ⟨e1, e2, e3, fun hx => e4 (hM b hx), e5⟩
 intro id b o k1 k2
 obtain ⟨i, e1, rfl, e3⟩ := hlive id k1
 have k2 : σ' (mvF ps i) = some (b, o) := k2
 rw [hs i e3] at k2
 exact h.base i b o e1 k2
 intro id hid
 show (if _ then _ else _) = _
 rw [if_neg fun ⟨k1, k2⟩ => by rw [hE id k1 k2] at hid; cases hid]
 exact h.gs id hid
 intro id hid
 simp only [nu', Bool.and_eq_true, decide_eq_true_eq] at hid
 by_cases hb : n0 <= id
 exact hE id hb hid.2
 omega
end
def MvTo (lim n0 : Nat) (V H : List Nat) (ps : List (Nat × Nat)) (st s : St) : Prop :=
 (⟨mvV (mvF ps) (zer V st.vars), mvH (mvF ps) (zer H st.heap), s.nx⟩ : St) = s /\ n0 <= s.nx /\ s.nx <= lim /\ mvOk ps n0 s.nx (idsV (zer V st.vars) ++ idsH (zer H st.heap)) = true
theorem Rel.mvTo {E : En} {n lim n0 : Nat} {F : FrS} {a : Act} {w : World} {g : Gh} {st s : St} {V H : List Nat} {ps : List (Nat × Nat)} (hF : F.on lim st) (h : Rel E n F a w g) (hE : ∀ id, n0 <= id -> id < lim -> E.nu0 id = true) (hm : MvTo lim n0 V H ps st s) :
  ∃ F' g', F'.on lim s /\ Rel E n F' a w g' := by
 obtain ⟨h1, h2, h3, h4⟩ := hm
 obtain ⟨F1, hF1, hR1⟩ := h.sub hF (ya2y V H st (nx := st.nx) (Nat.le_refl _))
 obtain ⟨F2, g2, hF2, hR2⟩ := hR1.move hF1 ps n0 s.nx h2 h3 hE h4
 rw [h1] at hF2
 exact ⟨F2, g2, hF2, hR2⟩
abbrev uC : Nat := 9223372036854775808
theorem Wk.unk (id s off len : Nat) (oc : Option Nat) : Wk (.ref id s off len oc) (.ref id s off len (some uC)) := fun _ _ h => zus h rfl
section
variable {π : Nat -> Nat}
mutual
theorem zse (hπ : ∀ i, π (π i) = i) : ∀ d : D, (d.ren π).ren π = d
 | .agg l => by simp only [D.ren, zje hπ l]
 | .ref id s off len oc => by simp only [D.ren, hπ]
 | .ptr id off => by simp only [D.ren, hπ]
 | .eptr id s i off => by simp only [D.ren, hπ]
 | .mref id => by simp only [D.ren, hπ]
 | .tuple l => by simp only [D.ren, zje hπ l]
 | .fn g l => by simp only [D.ren, zje hπ l]
 | .iface t d => by simp only [D.ren, zse hπ d]
 | .when c d => by simp only [D.ren, zse hπ d]
 | .bool _ | .int _ _ | .str _ | .imm _ _ _ | .iptr _ _ | .nilptr | .nilfn | .nilIface | .nilmap | .sc | .undef => by simp only [D.ren]
theorem zje (hπ : ∀ i, π (π i) = i) : ∀ l : List D, D.renL π (D.renL π l) = l
 | [] => by simp only [D.renL]
 | d :: ds => by simp only [D.renL, zse hπ d, zje hπ ds]
end
theorem zq7 (hπ : ∀ i, π (π i) = i) : ∀ l : List (D × D), zsf π (zsf π l) = l
 | [] => by simp only [zsf]
 | x :: xs => by simp only [zsf, zse hπ, zq7 hπ xs]
theorem zra (hπ : ∀ i, π (π i) = i) : ∀ b : Blk, (b.ren π).ren π = b
 | .box _ => by simp only [Blk.ren, zje hπ]
 | .arr _ _ true _ => by simp only [Blk.ren, cond_true]
 | .arr _ _ false _ => by simp only [Blk.ren, cond_false, zje hπ]
 | .map _ => by simp only [Blk.ren, zq7 hπ]
theorem ya4k (hπ : ∀ i, π (π i) = i) {i j : Nat} (h : π i = π j) : i = j := by rw [<- hπ i, h, hπ]
def zxb (π : Nat -> Nat) (g : Gh) : Gh := ⟨fun i => g.σ (π i), g.Z, g.zn⟩
def zno (π : Nat -> Nat) (hp : Nat -> Option Blk) : Nat -> Option Blk := fun i => (hp (π i)).map (Blk.ren π)
theorem znn {hp : Nat -> Option Blk} {i : Nat} : zno π hp i ≠ none ↔ hp (π i) ≠ none := by simp [zno]
theorem znr (hπ : ∀ i, π (π i) = i) {g : Gh} {hp : Nat -> Option Blk} {b : Nat} : ownB (zxb π g) (zno π hp) b ↔ ownB g hp b := by
 constructor
 rintro ⟨id, o, h1, h2⟩
 exact ⟨π id, o, znn.1 h1, h2⟩
 rintro ⟨id, o, h1, h2⟩
 exact ⟨π id, o, by rw [znn, hπ]; exact h1, by show g.σ (π (π id)) = _; rw [hπ]; exact h2⟩
theorem zz4 (hπ : ∀ i, π (π i) = i) (w : World) (g : Gh) (hp : Nat -> Option Blk) : Mv π (fun _ => True) (cx w g hp) (cx w (zxb π g) (zno π hp)) :=
 ⟨rfl, rfl, rfl, rfl, rfl, fun _ h => (znr hπ).1 h, fun i _ => by show g.σ (π (π i)) = g.σ i; rw [hπ]⟩
theorem Mem.ren (hπ : ∀ i, π (π i) = i) {fr : Nat} {w : World} {g : Gh} {hp : Nat -> Option Blk} {nu nu' : Nat -> Bool} (h : Mem fr w g hp nu) (hnu : ∀ id, nu' id = true -> nu (π id) = true) : Mem fr w (zxb π g) (zno π hp) nu' := by
 refine ⟨fun id blk hb => ?_, fun id id' b o o' k1 k2 k3 k4 => ?_, fun id hid => ?_, ?_, h.fl⟩
 unfold zno at hb
 cases hx : hp (π id) with
 | none => rw [hx] at hb; cases hb
 | some b0 =>
  rw [hx] at hb
  cases hb
  have := zwh (zz4 hπ w g hp) (id := π id) (blk := b0) trivial (fun _ _ => trivial) (h.hd _ _ hx)
  rwa [hπ] at this
 exact ya4k hπ (h.inj (π id) (π id') b o o' (znn.1 k1) (znn.1 k2) k3 k4)
 obtain ⟨h1, h2⟩ := h.nw (π id) (hnu id hid)
 exact ⟨h1, by simp [zno, h2]⟩
 refine ⟨h.zs.z0, h.zs.z1, h.zs.z2, fun m Zm hm hz b hb => ?_, fun b hb => h.zs.zo b ((znr hπ).1 hb)⟩
 obtain ⟨e1, e2, e3, e4, e5⟩ := h.zs.zr m Zm hm hz b hb
 exact ⟨e1, e2, e3, fun hx => e4 ((znr hπ).1 hx), e5⟩
def renE (π : Nat -> Nat) : List (Nat × Option Blk) -> List (Nat × Option Blk)
 | [] => []
 | (i, some b) :: r => (π i, some (b.ren π)) :: renE π r
 | (i, none) :: r => (π i, none) :: renE π r
theorem zu4 (hπ : ∀ i, π (π i) = i) : ∀ (l : List (Nat × Option Blk)) (i : Nat), getL (renE π l) i = (getL l (π i)).map (Option.map (Blk.ren π))
 | [], _ => rfl
 | (a, x) :: r, i => by
  have ih := zu4 hπ r i
  have hb : Nat.beq (π a) i = Nat.beq a (π i) := by
   by_cases e : π a = i
   subst e; rw [hπ]; simp
   rw [zc4 e, zc4 (fun e' => e (by rw [e', hπ]))]
  cases x <;> simp only [renE, getL, hb, ih] <;> cases Nat.beq a (π i) <;> rfl
theorem zqn (hπ : ∀ i, π (π i) = i) : ∀ (l : List (Nat × Blk)) (i : Nat), getL (mvH π l) i = (getL l (π i)).map (Blk.ren π)
 | [], _ => rfl
 | (a, x) :: r, i => by
  have ih := zqn hπ r i
  have hb : Nat.beq (π a) i = Nat.beq a (π i) := by
   by_cases e : π a = i
   subst e; rw [hπ]; simp
   rw [zc4 e, zc4 (fun e' => e (by rw [e', hπ]))]
  simp only [mvH, getL, hb, ih]
  cases Nat.beq a (π i) <;> rfl
theorem zo7 (hπ : ∀ i, π (π i) = i) {P : Program} {K : FuncId} {args : List D} {H : List (Nat × Blk)} {r : D} {eff : List (Nat × Option Blk)} {nw : Nat × Nat} (nw' : Nat × Nat) (hnw : ∀ id, nw.1 <= id -> id < nw.2 -> nw'.1 <= π id /\ π id < nw'.2) (h : zd1 P K args H r eff nw) :
  zd1 P K (D.renL π args) (mvH π H) (r.ren π) (renE π eff) nw' := by
 refine ⟨h.1, fun fr w g hp nu vs hM hH hn hvs => ?_⟩
 have hmv := zz4 hπ w g hp
 have hargs := zof hmv _ _ (fun _ _ => trivial) hvs
 rw [zje hπ] at hargs
 have hM1 : Mem fr w (zxb π g) (zno π hp) (fun i => nu (π i)) := hM.ren hπ fun _ h => h
 refine (h.2 fr w (zxb π g) (zno π hp) (fun i => nu (π i)) vs hM1 (fun id b hb => ?_) (fun id h1 h2 => ?_) hargs).mono ?_
 have := hH (π id) (b.ren π) (by rw [zqn hπ, hπ, hb]; rfl)
 simp only [zno, this, Option.map_some, zra hπ]
 obtain ⟨k1, k2⟩ := hnw id h1 h2
 exact hn (π id) k1 k2
 rintro e w' ⟨v, g1, rfl, hA⟩
 refine ⟨v, zxb π g1, rfl, ?_⟩
 have hpe : zno π (effH (zno π hp) eff) = effH hp (renE π eff) := by
  funext i
  unfold effH
  rw [zu4 hπ]
  simp only [zno]
  cases hg : getL eff (π i) with
  | none =>
   simp only [Option.map_none, hπ, Option.map_map]
   cases hp i with
   | none => rfl
   | some b => simp only [Option.map_some, Function.comp, zra hπ]
  | some ob => rfl
 refine ⟨hA.gz, fun id hid => ?_, ?_, ?_, ?_, ?_⟩
 have := hA.gs (π id) (by show nu (π (π id)) = false; rw [hπ]; exact hid)
 show g1.σ (π id) = g.σ id
 rw [this]
 show g.σ (π (π id)) = _
 rw [hπ]
 refine hA.keep.mono ?_
 rintro b _ ⟨id, o, h1, h2, h3⟩
 refine ⟨π id, o, ?_, znn.1 h2, h3⟩
 show getL (mvH π H) (π id) ≠ none
 rw [zqn hπ, hπ]
 simpa using h1
 have := hA.mem.ren hπ (nu' := effN nu nw') fun id hid => by
  simp only [effN, Bool.and_eq_true, Bool.not_eq_true', Bool.and_eq_false_iff, decide_eq_false_iff_not, hπ] at hid ⊢
  refine ⟨hid.1, ?_⟩
  by_cases h1 : nw.1 <= π id
  by_cases h2 : π id < nw.2
  obtain ⟨k1, k2⟩ := hnw (π id) h1 h2
  rw [hπ] at k1 k2
  rcases hid.2 with h | h <;> omega
  exact .inr h2
  exact .inl h1
 rwa [hpe] at this
 intro b hb
 rw [<- hpe] at hb
 rcases hA.own b ((znr hπ).1 hb) with h | h
 exact .inl h
 exact .inr ((znr hπ).1 h)
 have := zp6 (zz4 hπ w' g1 (effH (zno π hp) eff)) r v (fun _ _ => trivial) hA.res
 rwa [hpe] at this
end
def bsw (a b m i : Nat) : Nat := bif Nat.ble a i && Nat.blt i (a + m) then b + (i - a) else bif Nat.ble b i && Nat.blt i (b + m) then a + (i - b) else i
theorem zvs {a b m : Nat} (h : a + m <= b) (i : Nat) : bsw a b m (bsw a b m i) = i := by
 have c1 : ∀ x y : Nat, (Nat.ble x y = true ↔ x <= y) := fun x y => ⟨lb, Nat.ble_eq_true_of_le⟩
 have c2 : ∀ x y : Nat, (Nat.blt x y = true ↔ x < y) := fun x y => ⟨fun h => lb h, fun h => Nat.ble_eq_true_of_le h⟩
 unfold bsw
 cases h1 : (Nat.ble a i && Nat.blt i (a + m))
 cases h2 : (Nat.ble b i && Nat.blt i (b + m))
 simp only [cond_false, h1, h2]
 simp only [Bool.and_eq_true, c1, c2] at h2
 have e1 : (Nat.ble a (a + (i - b)) && Nat.blt (a + (i - b)) (a + m)) = true := by simp only [Bool.and_eq_true, c1, c2]; omega
 simp only [cond_false, cond_true, e1]
 omega
 simp only [Bool.and_eq_true, c1, c2] at h1
 have e1 : (Nat.ble a (b + (i - a)) && Nat.blt (b + (i - a)) (a + m)) = false := by
  rw [<- Bool.not_eq_true]; simp only [Bool.and_eq_true, c1, c2]; omega
 have e2 : (Nat.ble b (b + (i - a)) && Nat.blt (b + (i - a)) (b + m)) = true := by simp only [Bool.and_eq_true, c1, c2]; omega
 simp only [cond_false, cond_true, e1, e2]
 omega
def sw (a b i : Nat) : Nat := bif Nat.beq i a then b else bif Nat.beq i b then a else i
theorem ya5m (a b i : Nat) : sw a b (sw a b i) = i := by
 unfold sw
 by_cases h1 : i = a
 subst h1
 by_cases h2 : i = b
 subst h2; simp
 simp [zc4 (Ne.symm h2)]
 by_cases h2 : i = b
 subst h2; simp [zc4 h1]
 simp [zc4 h1, zc4 h2]
mutual
def frz (hp : Nat -> Option Blk) : D -> D × Bool
 | .ref id s off len _ => match hp id with
  | some (.arr _ s' p items) => (.imm s (unfL ((items.drop off).take len)) 13, Nat.beq s s' && Nat.ble (off + len) items.length && p && okML new1 ((items.drop off).take len) && (D.idsL ((items.drop off).take len)).isEmpty)
  | _ => (.undef, false)
 | .imm s l c => (.imm s l c, new1 (c / 8) || l.isEmpty)
 | .agg l => (.agg (frzs hp l).1, (frzs hp l).2)
 | .tuple l => (.tuple (frzs hp l).1, (frzs hp l).2)
 | .iface t d => (.iface t (frz hp d).1, (frz hp d).2)
 | .bool b => (.bool b, true)
 | .int k n => (.int k n, true)
 | .str l => (.str l, true)
 | .nilptr => (.nilptr, true)
 | .nilfn => (.nilfn, true)
 | .nilIface => (.nilIface, true)
 | .nilmap => (.nilmap, true)
 | _ => (.undef, false)
def frzs (hp : Nat -> Option Blk) : List D -> List D × Bool
 | [] => ([], true)
 | d :: ds => ((frz hp d).1 :: (frzs hp ds).1, (frz hp d).2 && (frzs hp ds).2)
end
theorem zny {fr : Nat} {w : World} {g : Gh} {hp : Nat -> Option Blk} : ((cx w g hp).at fun b => fr <= b).Le ((cx0 w fr).at fun b => fr <= b) :=
 Cx.Le.inner (C := cx w g hp) (C' := cx0 w fr) (fun _ _ => rfl) fun _ _ h2 _ => ⟨fun h => h, h2, rfl⟩
mutual
theorem zzj {fr : Nat} {w : World} {g : Gh} {hp : Nat -> Option Blk} (hd : ∀ id blk, hp id = some blk -> holds (cx w g hp) id blk) (hz : g.zn 1 = some fun b => fr <= b) (ho : ∀ b, ownB g hp b -> fr <= b) : ∀ (d : D) (v : Value), rep (cx w g hp) d v -> (frz hp d).2 = true -> rep (cx0 w fr) (frz hp d).1 v
 | .ref id s off len oc, v, h, hp' => by
  simp only [frz] at hp' ⊢
  split at hp'
  rename_i e s' p items hb
  simp only [Bool.and_eq_true, List.isEmpty_iff] at hp' ⊢
  obtain ⟨⟨⟨⟨h1, hl⟩, rfl⟩, hk⟩, hi⟩ := hp'
  obtain rfl := nb h1
  have hl := lb hl
  simp only [rep] at h
  obtain ⟨_, ad, cap, rfl, h1, h2, h3, _, h4⟩ := h
  have hlen : (unfL ((items.drop off).take len)).length = len := by rw [zkw]; simp; omega
  simp only [rep]
  refine ⟨ad, cap, by rw [hlen], by omega, h2, by simp, by simp, by simp, h3, fun _ => rfl, ?_⟩
  by_cases hz0 : len = 0
  left; subst hz0; simp [unfL]
  right
  rcases h4 with h4 | ⟨b, T, nn, hσ, rfl, hsh, hn⟩
  omega
  rcases hd id _ hb with ⟨rfl, _⟩ | ⟨b', cs, hσ', hblk, hsz, hel⟩
  simp at hl; omega
  have e := hσ'.symm.trans hσ
  simp only [Option.some.injEq, Prod.mk.injEq] at e
  obtain ⟨rfl, _⟩ := e
  intro Z' hZ'
  have hZ' : (fun b => fr <= b) = Z' := by simpa [Cx.zone, cx0] using hZ'
  subst hZ'
  refine ⟨_, rfl, rfl, fun h => h, ho _ ⟨id, 0, by rw [hb]; simp, hσ⟩, ⟨(Array.getElem?_eq_some_iff.1 hblk).1, fun _ => ⟨cs, _, hblk⟩⟩, ?_⟩
  have he := zga _ len _ _ _ (zhe _ off _ _ _ hel)
  have he2 := zoq (C := { cx w g hp with rf := !true }) (q := new1) (Zt := fun b => fr <= b) (fun m hm => ⟨fun b => fr <= b, by
   obtain rfl : m = 1 := nb hm
   simpa [Cx.zone, cx] using hz, fun b _ hb _ => hb⟩) _ _ _ _ hk hi he
  rw [Nat.zero_add] at he2
  exact zfp (C := (cx w g hp).at fun b => fr <= b) zny _ _ _ _ rfl he2
  cases hp'
 | .imm s l c, v, h, hp' => by
  simp only [frz, Bool.or_eq_true, List.isEmpty_iff] at hp' ⊢
  simp only [rep] at h ⊢
  obtain ⟨a, cap, rfl, h1, h2, h3, h4, h5, h6, hfl, h7⟩ := h
  refine ⟨a, cap, rfl, h1, h2, h3, h4, h5, h6, fun _ => rfl, ?_⟩
  rcases h7 with h7 | h7
  exact .inl h7
  rcases hp' with hk | hk
  right
  intro Z' hZ'
  have hc : c / 8 = 1 := nb hk
  rw [hc] at hZ'
  have hZ' : (fun b => fr <= b) = Z' := by simpa [Cx.zone, cx0] using hZ'
  subst hZ'
  obtain ⟨a0, ha, hs, hM, hlo, hb, he⟩ := h7 (fun b => fr <= b) (by rw [hc]; simpa [Cx.zone, cx] using hz)
  exact ⟨a0, ha, hs, fun h => h, hlo, hb, zfp (C := (cx w g hp).at fun b => fr <= b) zny _ _ _ _ rfl he⟩
  exact .inl hk
 | .agg l, v, h, hp' => by
  simp only [frz] at hp' ⊢
  simp only [rep] at h ⊢
  obtain ⟨cs, rfl, h⟩ := h
  exact ⟨cs, rfl, zvf hd hz ho l cs h hp'⟩
 | .tuple l, v, h, hp' => by
  simp only [frz] at hp' ⊢
  simp only [rep] at h ⊢
  obtain ⟨cs, rfl, h⟩ := h
  exact ⟨cs, rfl, zvf hd hz ho l cs h hp'⟩
 | .iface t d, v, h, hp' => by
  simp only [frz] at hp' ⊢
  simp only [rep] at h ⊢
  obtain ⟨x, rfl, h⟩ := h
  exact ⟨x, rfl, zzj hd hz ho d x h hp'⟩
 | .bool b, v, h, _ => by simpa only [frz, rep] using h
 | .int k n, v, h, _ => by simpa only [frz, rep] using h
 | .str l, v, h, _ => by simpa only [frz, rep] using h
 | .nilptr, v, h, _ => by simpa only [frz, rep] using h
 | .nilfn, v, h, _ => by simpa only [frz, rep] using h
 | .nilIface, v, h, _ => by simpa only [frz, rep] using h
 | .nilmap, v, h, _ => by simpa only [frz, rep] using h
 | .ptr _ _, _, _, hp' | .eptr _ _ _ _, _, _, hp' | .iptr _ _, _, _, hp' | .fn _ _, _, _, hp' | .mref _, _, _, hp' | .when _ _, _, _, hp' | .sc, _, _, hp' | .undef, _, _, hp' => by simp [frz] at hp'
theorem zvf {fr : Nat} {w : World} {g : Gh} {hp : Nat -> Option Blk} (hd : ∀ id blk, hp id = some blk -> holds (cx w g hp) id blk) (hz : g.zn 1 = some fun b => fr <= b) (ho : ∀ b, ownB g hp b -> fr <= b) : ∀ (l : List D) (vs : List Value), reps (cx w g hp) l vs -> (frzs hp l).2 = true -> reps (cx0 w fr) (frzs hp l).1 vs
 | [], vs, h, _ => by simp only [reps, frzs] at h ⊢; exact h
 | d :: ds, vs, h, hp' => by
  simp only [frzs, Bool.and_eq_true] at hp' ⊢
  simp only [reps] at h ⊢
  obtain ⟨v, vs', rfl, h1, h2⟩ := h
  exact ⟨v, vs', rfl, zzj hd hz ho d v h1 hp'.1, zvf hd hz ho ds vs' h2 hp'.2⟩
end
mutual
theorem zv4 {hp : Nat -> Option Blk} : ∀ d : D, (frz hp d).2 = true -> okM new1 (frz hp d).1 = true
 | .ref id s off len oc, h => by
  simp only [frz] at h ⊢
  split at h
  simp [okM, new1]
  cases h
 | .imm s l c, h => by simpa only [frz, okM] using h
 | .agg l, h => by
  simp only [frz] at h ⊢
  simp only [okM]; exact zsi l h
 | .tuple l, h => by
  simp only [frz] at h ⊢
  simp only [okM]; exact zsi l h
 | .iface t d, h => by
  simp only [frz] at h ⊢
  simp only [okM]; exact zv4 d h
 | .bool _, _ | .int _ _, _ | .str _, _ | .nilptr, _ | .nilfn, _ | .nilIface, _ | .nilmap, _ => by simp only [frz, okM]
 | .ptr _ _, h | .eptr _ _ _ _, h | .iptr _ _, h | .fn _ _, h | .mref _, h | .when _ _, h | .sc, h | .undef, h => by simp [frz] at h
theorem zsi {hp : Nat -> Option Blk} : ∀ l : List D, (frzs hp l).2 = true -> okML new1 (frzs hp l).1 = true
 | [], _ => by simp only [frzs, okML]
 | d :: ds, h => by
  simp only [frzs, Bool.and_eq_true] at h
  simp only [frzs, okML, zv4 d h.1, zsi ds h.2, Bool.and_self]
end
theorem zg8 {P : Program} {K : FuncId} {args : List D} {r r' : D} {eff : List (Nat × Option Blk)} {nw : Nat × Nat} (hr : frz (effH (fun _ => none) eff) r = (r', true)) (h : zd1 P K args [] r eff nw) : zb7 P K args r' := by
 refine ⟨h.1, fun w vs hvs => ?_⟩
 let g : Gh := ⟨fun _ => none, fun _ => True, fun m => if m = 1 then some (fun x => w.heap.size <= x) else if m = 2 then some (fun x => x < w.heap.size) else none⟩
 have hM : Mem w.heap.size w g (fun _ => none) (fun _ => true) := by
  refine ⟨(fun id blk h => by cases h), fun id id' b o o' h => absurd rfl h, fun id _ => ⟨rfl, rfl⟩, ⟨fun _ _ => trivial, ⟨_, rfl, fun x hx => ⟨hx, trivial⟩, fun x hx => hx⟩, ⟨_, rfl, fun x hx => ⟨hx, trivial⟩⟩, ?_, fun b hb => by obtain ⟨id, o, h1, _⟩ := hb; exact absurd rfl h1⟩, Nat.le_refl _⟩
  intro m Zm hm hz
  have : g.zn m = none := by
   simp only [g]
   rw [if_neg (by omega), if_neg (by omega)]
  rw [this] at hz; cases hz
 have hle : Cx.Le (cx0 w w.heap.size) (cx w g fun _ => none) := by
  refine ⟨fun m _ Z' hZ' => ⟨Z', hZ', fun b _ k2 k3 => ⟨?_, k2, .refl k3⟩⟩, fun _ _ => rfl, fun _ => rfl, (fun x => by cases x), (fun x => by cases x)⟩
  rintro ⟨id, o, h1, _⟩
  exact h1 rfl
 refine (h.2 w.heap.size w g (fun _ => none) (fun _ => true) vs hM (fun id b h => by cases h) (fun _ _ _ => rfl) (zgb hle _ _ hvs)).mono ?_
 rintro ee w' ⟨v, g', he, ha⟩
 have h1 : r' = (frz (effH (fun _ => none) eff) r).1 := by rw [hr]
 have h2 : (frz (effH (fun _ => none) eff) r).2 = true := by rw [hr]
 refine ⟨v, he, ha.keep.mono ?_, by rw [h1]; exact zv4 _ h2, ?_⟩
 rintro i _ ⟨id, o, h1, _⟩
 exact h1 rfl
 rw [h1]
 refine zzj ha.mem.hd ?_ (fun b hb => ?_) r v ha.res h2
 rw [ha.gz.2]; rfl
 rcases ha.own b hb with h | ⟨id, o, h, _⟩
 exact h
 exact absurd rfl h
end Go.Tm
end
section
namespace Go.Tm
open Go.RowKit Go.WideShapes
def Goes (lim n0 : Nat) (st s : St) : Prop :=
 ∀ (E : En) (n : Nat) (F : FrS) (a : Act) (w : World) (g : Gh), (∀ id, n0 <= id -> id < lim -> E.nu0 id = true) -> F.on lim st -> Rel E n F a w g -> ∃ F' g', F'.on lim s /\ Rel E n F' a w g'
theorem Goes.mv {lim n0 : Nat} {st s : St} (V H : List Nat) (ps : List (Nat × Nat)) (h1 : (⟨mvV (mvF ps) (zer V st.vars), mvH (mvF ps) (zer H st.heap), s.nx⟩ : St) = s) (h2 : n0 <= s.nx) (h3 : s.nx <= lim) (h4 : mvOk ps n0 s.nx (idsV (zer V st.vars) ++ idsH (zer H st.heap)) = true) : Goes lim n0 st s :=
 fun _ _ _ _ _ _ hE hF hR => hR.mvTo hF hE ⟨h1, h2, h3, h4⟩
theorem Ok.goes {P : Program} {lim n : Nat} {c : Code} {st s : St} {Q : Exit -> St -> Prop} (h : Goes lim st.nx st s) (k : Ok P lim n c s Q) : Ok P lim n c st Q := by
 intro E F a w g hF hR
 obtain ⟨F', g', hF', hR'⟩ := h E n F a w g (fun id h1 h2 => hR.nu id (hF.2.2 id h1 h2)) hF hR
 exact k E F' a w g' hF' hR'
def cutQ {ι : Type} (lim n0 : Nat) (M : ι -> St) (Pr : ι -> Prop) (Q : Exit -> St -> Prop) : Exit -> St -> Prop := fun e s => match e with | .normal => ∃ j, Goes lim n0 s (M j) /\ Pr j | e => Q e s
theorem Ok.seqM {P : Program} {lim n : Nat} {x y : Code} {st : St} {Q : Exit -> St -> Prop} {ι : Type} (n0 : Nat) (M : ι -> St) (Pr : ι -> Prop) (hn : st.nx <= n0) (h1 : Ok P lim n x st (cutQ lim n0 M Pr Q)) (h2 : ∀ j, Pr j -> Ok P lim n y (M j) Q) : Ok P lim n (.seq x y) st Q := by
 intro E F a w g hF hR
 have hE : ∀ id, n0 <= id -> id < lim -> E.nu0 id = true := fun id h1 h2 => hR.nu id (hF.2.2 id (Nat.le_trans hn h1) h2)
 refine wp_seq (wp_mono (h1 E F a w g hF hR) ?_)
 rintro e a' w' ⟨st', F', g', hq, hF', hR'⟩
 cases e with
 | normal =>
  obtain ⟨j, h3, h4⟩ := hq
  obtain ⟨F2, g2, hF2, hR2⟩ := h3 E n F' a' w' g' hE hF' hR'
  exact h2 j h4 E F2 a' w' g2 hF2 hR2
 | exit id => exact ⟨st', F', g', hq, hF', hR'⟩
 | goto l => exact ⟨st', F', g', hq, hF', hR'⟩
 | ret => exact ⟨st', F', g', hq, hF', hR'⟩
 | panic ch => exact ⟨st', F', g', hq, hF', hR'⟩
 | outgrown => exact ⟨st', F', g', hq, hF', hR'⟩
def ya4s {ι : Type} (lim n0 : Nat) (S : ι -> St) (Pr : ι -> Prop) (μ : ι -> Nat) (i : ι) (Q : Exit -> St -> Prop) : Exit -> St -> Prop := fun e st' => match e with | .normal => ∃ j, Goes lim n0 st' (S j) /\ Pr j /\ μ j < μ i | e => Q e st'
theorem Ok.loopG {P : Program} {lim n : Nat} {c : Code} {st : St} {Q : Exit -> St -> Prop} {ι : Type} (n0 : Nat) (S : ι -> St) (Pr : ι -> Prop) (μ : ι -> Nat) (i0 : ι) (hn : st.nx <= n0) (hs : Goes lim n0 st (S i0)) (h0 : Pr i0)
  (round : ∀ i, Pr i -> Ok P lim n c (S i) (ya4s lim n0 S Pr μ i Q)) : Ok P lim n (.loop c) st Q := by
 intro E F a w g hF hR b k cs
 have hE : ∀ id, n0 <= id -> id < lim -> E.nu0 id = true := fun id h1 h2 => hR.nu id (hF.2.2 id (Nat.le_trans hn h1) h2)
 have key : ∀ m i, μ i = m -> Pr i -> ∀ (F : FrS) (a : Act) (w : World) (g : Gh), F.on lim (S i) -> Rel E n F a w g -> ∃ e a' w', (∃ st' F' g', Q e st' /\ F'.on lim st' /\ Rel E n F' a' w' g') /\ Arrives P (lone (b.at a (.code c :: .inLoop c :: k)) cs w) b k cs e a' w' := by
  intro m
  induction m using Nat.strongRecOn with
  | _ m ih =>
   intro i hm hI F a w g hF hR
   obtain ⟨e, a₁, w₁, ⟨st', F', g', hq, hF', hrel⟩, harr⟩ := round i hI E F a w g hF hR b (.inLoop c :: k) cs
   cases e with
   | normal =>
    obtain ⟨j, h1, h2, h3⟩ := hq
    obtain ⟨F2, g2, hF2, hR2⟩ := h1 E n F' a₁ w₁ g' hE hF' hrel
    obtain ⟨e₂, a₂, w₂, hq₂, harr₂⟩ := ih (μ j) (hm ▸ h3) j rfl h2 F2 a₁ w₁ g2 hF2 hR2
    exact ⟨e₂, a₂, w₂, hq₂, .of_steps (Steps.trans harr (.one step_inLoop)) harr₂⟩
   | exit id => exact ⟨_, a₁, w₁, ⟨st', F', g', hq, hF', hrel⟩, .pass (x := .inLoop c) rfl (fun _ _ => .inl (by simp)) harr⟩
   | goto l => exact ⟨_, a₁, w₁, ⟨st', F', g', hq, hF', hrel⟩, .pass (x := .inLoop c) rfl (fun _ _ => .inl (by simp)) harr⟩
   | ret => exact ⟨_, a₁, w₁, ⟨st', F', g', hq, hF', hrel⟩, .pass (x := .inLoop c) rfl (fun _ _ => .inl (by simp)) harr⟩
   | panic ch => exact ⟨_, a₁, w₁, ⟨st', F', g', hq, hF', hrel⟩, .pass (x := .inLoop c) rfl (fun _ _ => .inl (by simp)) harr⟩
   | outgrown => exact ⟨_, a₁, w₁, ⟨st', F', g', hq, hF', hrel⟩, .pass (x := .inLoop c) rfl (fun _ _ => .inl (by simp)) harr⟩
 obtain ⟨F1, g1, hF1, hR1⟩ := hs E n F a w g hE hF hR
 obtain ⟨e, a', w', hq, harr⟩ := key _ i0 rfl h0 F1 a w g1 hF1 hR1
 exact ⟨e, a', w', hq, .of_steps (.one step_loop) harr⟩
theorem bind_some {α β : Type} {o : Option α} {f : α -> Option β} {r : β} (h : o.bind f = some r) : ∃ x, o = some x /\ f x = some r := by
 cases o with
 | none => cases h
 | some x => exact ⟨x, rfl, h⟩
theorem ya4t {α : Type} {c : Prop} [Decidable c] {a b r : α} (h : (if c then a else b) = r) (hc : c) : a = r := by rw [if_pos hc] at h; exact h
theorem zxn {α : Type} {c : Prop} [Decidable c] {a b r : α} (h : (if c then a else b) = r) (hc : ¬ c) : b = r := by rw [if_neg hc] at h; exact h
theorem zaa {α : Type} {c : Prop} [Decidable c] {a : Option α} {r : α} (h : (if c then a else none) = some r) : c /\ a = some r := by
 by_cases hc : c
 exact ⟨hc, ya4t h hc⟩
 rw [if_neg hc] at h; cases h
theorem zbx {i n : Nat} (h : i < n) (hn : (n : Int) <= 9223372036854775807) : wr .i64 ((i : Int) + 1) = ((i + 1 : Nat) : Int) :=
 zis _ _ (by show (-9223372036854775808 : Int) <= _; omega) (by show _ <= (9223372036854775807 : Int); omega)
theorem zf8 {α : Type} [Inhabited α] (f : α -> D) (l : List α) (i : Nat) (h : i < l.length) : nth (l.map f) i = f (l.getD i default) := by
 rw [zbj f l i h]; simp [h]
theorem zax {α : Type} [Inhabited α] (f : α -> D) (l : List α) (i : Int) (h : 0 <= i /\ i < (l.length : Int)) : nth (l.map f) i.toNat = f (l.getD i.toNat default) :=
 zf8 f l _ (by omega)
theorem Ok.wf {P : Program} {lim n : Nat} {c : Code} {st : St} {Q : Exit -> St -> Prop} (t : Nat) (d : D) (hd : getR st.vars t = d) (h : Tm.wf d -> Ok P lim n c st Q) : Ok P lim n c st Q := by
 intro E F a w g hF hR
 refine h ?_ E F a w g hF hR
 have := hR.rd t
 rw [hF.1, hd] at this
 exact zw4 _ _ this
structure Pl {α : Type} (f : α -> D) : Prop where
 un : ∀ x, unf (f x) = f x
 ids : ∀ x, (f x).ids = []
 ok : ∀ q, q 0 = true -> ∀ x, okM q (f x) = true
theorem ziq (k : IntKind) : Pl (D.int k) := ⟨fun _ => rfl, fun _ => rfl, fun _ _ _ => rfl⟩
theorem ya4j : Pl (D.int .i64) := ziq _
section
variable {α : Type} {f : α -> D} (hf : Pl f)
include hf
theorem Pl.unfL (l : List α) : Tm.unfL (l.map f) = l.map f := by
 induction l with
 | nil => rfl
 | cons x l ih => simp only [List.map_cons, Tm.unfL, hf.un, ih]
theorem Pl.idsL (l : List α) : D.idsL (l.map f) = [] := by
 induction l with
 | nil => rfl
 | cons x l ih => simp only [List.map_cons, D.idsL, hf.ids, ih, List.nil_append]
theorem Pl.okML (q : Nat -> Bool) (h : q 0 = true) (l : List α) : Tm.okML q (l.map f) = true := by
 induction l with
 | nil => rfl
 | cons x l ih => simp only [List.map_cons, Tm.okML, hf.ok q h, ih, Bool.and_self]
theorem zen {hp : Nat -> Option Blk} {id s e n : Nat} {oc : Option Nat} {l : List α} (h : hp id = some (.arr e s true (l.map f))) (hn : n = l.length) : lend hp (.ref id s 0 n oc) = (.imm s (l.map f) 4, true) := by
 subst hn
 have ht : (l.map f).take l.length = l.map f := List.take_of_length_le (by simp)
 simp only [lend, h, List.drop_zero, ht, hf.unfL, hf.okML low3 rfl, hf.idsL, List.length_map, Nat.zero_add, Nat.beq_refl, List.isEmpty_nil, Bool.and_true, Bool.true_and, Prod.mk.injEq, true_and]
 exact Nat.ble_eq_true_of_le (Nat.le_refl _)
end
theorem zm1 {hp : Nat -> Option Blk} : zf3 hp [] = ([], true) := rfl
theorem zc1 {hp : Nat -> Option Blk} {d d' : D} {l l' : List D} (h : lend hp d = (d', true)) (hl : zf3 hp l = (l', true)) : zf3 hp (d :: l) = (d' :: l', true) := by
 simp only [zf3, h, hl, Bool.and_self]
theorem ya0e {C : Cx} {s c : Nat} {l : List D} {v : Value} (hc : c < 8) (h : rep C (.imm s l c) v) : rep C (.imm s l 4) v := by
 have e : c / 8 = 0 := by omega
 simp only [rep, e] at h ⊢
 obtain ⟨a, cap, rfl, h1, h2, _, _, _, h6, _, h7⟩ := h
 exact ⟨a, cap, rfl, h1, h2, by simp, by simp, by simp, h6, by simp, h7.imp_right fun h Z hZ => by obtain ⟨a0, e1, e2, e3, e4, e5, e6⟩ := h Z hZ; exact ⟨a0, e1, e2, e3, e4, e5.any (by decide), e6⟩⟩
theorem Wk.imm4 (s : Nat) (l : List D) {c : Nat} (hc : c < 8) : Wk (.imm s l c) (.imm s l 4) := fun _ _ h => ya0e hc h
def WkG (d d' : D) : Prop := ∀ (fr : Nat) (w : World) (g : Gh) (hp : Nat -> Option Blk) (nu : Nat -> Bool), Mem fr w g hp nu -> ∀ v, rep (cx w g hp) d v -> rep (cx w g hp) d' v
theorem WkG.of {d d' : D} (h : Wk d d') : WkG d d' := fun _ _ _ _ _ _ _ hv => h _ _ hv
theorem WkG.unk (id s off len : Nat) (oc : Option Nat) : WkG (.ref id s off len oc) (.ref id s off len (some uC)) := .of (Wk.unk _ _ _ _ _)
theorem WkG.own0 (id s s0 k : Nat) (hk : k % 8 <= 1) : WkG (.imm s0 [] k) (.ref id s 0 0 (some uC)) := by
 intro fr w g hp nu _ v h
 simp only [rep] at h ⊢
 obtain ⟨ad, cap, rfl, k1, k2, k3, k4, k5, k6, _⟩ := h
 have hc : cap = 0 := k5 (.inl hk)
 subst hc
 exact ⟨rfl, ad, 0, rfl, by simp, by simp, by simp, ⟨(fun c h hk => by cases h; cases hk), (fun h => by cases h)⟩, .inl rfl⟩
theorem Goes.wk {lim n0 : Nat} {st s : St} (t : Nat) (d d' : D) (hd : getR st.vars t = d) (hw : WkG d d') (h : Goes lim n0 ⟨put st.vars t d', st.heap, st.nx⟩ s) : Goes lim n0 st s := by
 intro E n F a w g hE hF hR
 obtain ⟨h1, h2, h3⟩ := hF
 refine h E n ⟨getR (put st.vars t d'), F.hp, F.nu⟩ a w g hE ⟨rfl, h2, h3⟩ ⟨hR.sz, hR.df, fun u => ?_, hR.mem, hR.base, hR.keep, hR.gz, hR.gs, hR.nu⟩
 have hu := hR.rd u
 show rep (cx w g F.hp) (getR (put st.vars t d') u) _
 rw [h1] at hu
 have hg : getR (put st.vars t d') u = if t = u then d' else getR st.vars u := by
  unfold getR
  rw [zjz]
  by_cases hh : t = u <;> simp [hh]
 rw [hg]
 by_cases htu : t = u
 subst htu
 rw [if_pos rfl]
 rw [hd] at hu
 exact hw _ _ _ _ _ hR.mem _ hu
 rw [if_neg htu]; exact hu
theorem Goes.new0 {lim n0 : Nat} {st s : St} (s' : Nat) (e : TypeId) (hn : st.nx < lim) (h : Goes lim n0 ⟨st.vars, put st.heap st.nx (.arr e s' true []), st.nx + 1⟩ s) : Goes lim n0 st s := by
 intro E n F a w g hE hF hR
 obtain ⟨h1, h2, h3⟩ := hF
 have hnu : F.nu st.nx = true := h3 st.nx (Nat.le_refl _) hn
 obtain ⟨g1, _⟩ := Rel.made hR (m := st.nx) (blk := .arr e s' true []) (loc := none) (kl := none) (w' := w) hnu ((Keep.refl _ w).mono fun _ _ h => h) (by rintro b o h; cases h) (by
  intro C hC hle hrf hσ
  exact .inl ⟨rfl, hσ⟩)
 have hp : effH F.hp ((st.nx, some (.arr e s' true [])) :: kill none) = getL (put st.heap st.nx (.arr e s' true [])) := by
  funext i
  rw [zjz, h2]
  simp only [effH, kill, getL]
  by_cases hi : st.nx = i
  subst hi; simp
  simp [zc4 hi, hi]
 refine h E n ⟨F.rd, (F.eff ((st.nx, some (.arr e s' true [])) :: kill none) (st.nx, st.nx + 1)).hp, (F.eff ((st.nx, some (.arr e s' true [])) :: kill none) (st.nx, st.nx + 1)).nu⟩ a w (setσ g st.nx none) hE ⟨h1, hp, fun id k1 k2 => ?_⟩ ⟨g1.sz, g1.df, g1.rd, g1.mem, g1.base, g1.keep, g1.gz, g1.gs, g1.nu⟩
 have k1 : st.nx + 1 <= id := k1
 have := h3 id (by omega) k2
 simp only [FrS.eff, effN, this, Bool.true_and, Bool.not_eq_true', Bool.and_eq_false_iff, decide_eq_false_iff_not]
 right
 omega
theorem Ok.ends {P : Program} {lim n : Nat} {c : Code} {st : St} {Q : Exit -> St -> Prop} (n0 : Nat) (hn : st.nx <= n0) (h : Ok P lim n c st fun e s => ∃ s', Goes lim n0 s s' /\ Q e s') : Ok P lim n c st Q := by
 intro E F a w g hF hR
 have hE : ∀ id, n0 <= id -> id < lim -> E.nu0 id = true := fun id h1 h2 => hR.nu id (hF.2.2 id (Nat.le_trans hn h1) h2)
 refine wp_mono (h E F a w g hF hR) ?_
 rintro e a' w' ⟨st', F', g', ⟨s', h1, h2⟩, hF', hR'⟩
 obtain ⟨F2, g2, hF2, hR2⟩ := h1 E n F' a' w' g' hE hF' hR'
 exact ⟨s', F2, g2, h2, hF2, hR2⟩
theorem zfh {hp : Nat -> Option Blk} {d d' : D} (h : lend hp d = (d', true)) (hd : match d with | .ptr _ _ => False | .fn _ _ => False | _ => True) : zfn hp d = (d', true) := by
 cases d <;> first | exact hd.elim | (simp only [zfn]; exact h)
theorem zm3 {hp : Nat -> Option Blk} {id off : Nat} {cells cells' : List D} (hb : hp id = some (.box cells)) (h : zf3 hp cells = (cells', true)) : zfn hp (.ptr id off) = (.iptr 0 (cells'.drop off), true) := by simp only [zfn, hb, h]
theorem znv {hp : Nat -> Option Blk} {f : Fn} {l l' : List D} (h : zfc hp l = (l', true)) : zfn hp (.fn f l) = (.fn f l', true) := by simp only [zfn, h]
theorem zai {hp : Nat -> Option Blk} : zfc hp [] = ([], true) := rfl
theorem za3 {hp : Nat -> Option Blk} {d d' : D} {l l' : List D} (h : zfn hp d = (d', true)) (hl : zfc hp l = (l', true)) : zfc hp (d :: l) = (d' :: l', true) := by
 simp only [zfc, h, hl, Bool.and_self]
theorem ya2l {α : Type} {f : α -> D} (hf : Pl f) (hk : ∀ l : List α, okML new1 (l.map f) = true) {hp : Nat -> Option Blk} {id s e n : Nat} {oc : Option Nat} {l : List α} (h : hp id = some (.arr e s true (l.map f))) (hn : n = l.length) : frz hp (.ref id s 0 n oc) = (.imm s (l.map f) 13, true) := by
 subst hn
 have ht : (l.map f).take l.length = l.map f := List.take_of_length_le (by simp)
 simp only [frz, h, List.drop_zero, ht, hf.unfL, hk, hf.idsL, List.length_map, Nat.zero_add, Nat.beq_refl, List.isEmpty_nil, Bool.and_true, Bool.true_and, Prod.mk.injEq, true_and]
 exact Nat.ble_eq_true_of_le (Nat.le_refl _)
theorem zk8 {hp : Nat -> Option Blk} {l l' : List D} (h : frzs hp l = (l', true)) : frz hp (.agg l) = (.agg l', true) := by simp only [frz, h]
theorem zn7 {hp : Nat -> Option Blk} {l l' : List D} (h : frzs hp l = (l', true)) : frz hp (.tuple l) = (.tuple l', true) := by simp only [frz, h]
theorem zfi {hp : Nat -> Option Blk} : frzs hp [] = ([], true) := rfl
theorem za4 {hp : Nat -> Option Blk} {d d' : D} {l l' : List D} (h : frz hp d = (d', true)) (hl : frzs hp l = (l', true)) : frzs hp (d :: l) = (d' :: l', true) := by
 simp only [frzs, h, hl, Bool.and_self]
structure Pl0 {α : Type} (f : α -> D) : Prop extends Pl f where
 no : ∀ q x, okM q (f x) = true
theorem Pl0.okML {α : Type} {f : α -> D} (hf : Pl0 f) (q : Nat -> Bool) (l : List α) : Tm.okML q (l.map f) = true := by
 induction l with
 | nil => rfl
 | cons x l ih => simp only [List.map_cons, Tm.okML, hf.no q, ih, Bool.and_self]
theorem zcd : Pl0 (D.int .i64) := ⟨ya4j, fun _ _ => rfl⟩
theorem zbw {α : Type} {f : α -> D} (hf : Pl0 f) {hp : Nat -> Option Blk} {id s e n : Nat} {oc : Option Nat} {l : List α} (h : hp id = some (.arr e s true (l.map f))) (hn : n = l.length) : frz hp (.ref id s 0 n oc) = (.imm s (l.map f) 13, true) := ya2l hf.toPl (hf.okML new1) h hn
theorem zc5 {α : Type} {f : α -> D} (hf : Pl0 f) (e s : Nat) (l : List α) : newB (some (.arr e s true (l.map f))) = true := by simp only [newB, hf.okML, Bool.and_self]
theorem zb4 {nw : Nat × Nat} {i : Nat} {b : Option Blk} {r : List (Nat × Option Blk)} (h1 : Nat.ble nw.1 i = true) (h2 : Nat.blt i nw.2 = true) (h3 : newB b = true) (h4 : newE nw r = true) : newE nw ((i, b) :: r) = true := by simp only [newE, h1, h2, h3, h4, Bool.and_self]
theorem zf9 {nw : Nat × Nat} : newE nw [] = true := rfl
theorem zez {P : Program} {K : FuncId} {args : List D} {r : D} {eff : List (Nat × Option Blk)} {m : Nat} (n : Nat) (hn : m <= n) (h : zd1 P K args [] r eff (0, m)) : zd1 P K (D.renL (bsw 0 n m) args) [] (r.ren (bsw 0 n m)) (renE (bsw 0 n m) eff) (n, n + m) := by
 refine zo7 (π := bsw 0 n m) (zvs (by omega)) (n, n + m) (fun id h1 h2 => ?_) h
 have h2 : id < m := h2
 have e : (Nat.ble 0 id && Nat.blt id (0 + m)) = true := by
  simp only [Bool.and_eq_true]
  exact ⟨Nat.ble_eq_true_of_le (Nat.zero_le _), Nat.ble_eq_true_of_le (by omega)⟩
 simp only [bsw, e, cond_true]
 omega
theorem Ok.wfb {P : Program} {lim n : Nat} {c : Code} {st : St} {Q : Exit -> St -> Prop} (id : Nat) (cells : List D) (hd : getL st.heap id = some (.box cells)) (h : wfL cells -> Ok P lim n c st Q) : Ok P lim n c st Q := by
 intro E F a w g hF hR
 refine h ?_ E F a w g hF hR
 obtain ⟨b, cs, T, _, _, e3, _⟩ := hR.mem.hd id (.box cells) (by rw [hF.2.1]; exact hd)
 exact zn1 _ _ e3
theorem Ok.nil4 {P : Program} {lim n : Nat} {c : Code} {st : St} {Q : Exit -> St -> Prop} (t s : Nat) (l : List D) (hd : getR st.vars t = .imm s l 4) (h1 : Ok P lim n c ⟨put st.vars t (.imm s l 2), st.heap, st.nx⟩ Q) (h2 : l = [] -> Ok P lim n c ⟨put st.vars t (.imm s l 0), st.heap, st.nx⟩ Q) : Ok P lim n c st Q := by
 intro E F a w g hF hR
 have hr := hR.rd t
 rw [hF.1, hd] at hr
 have key : ∀ d', rep (cx w g F.hp) d' (a.eval (.tmp t)) -> Rel E n ⟨getR (put st.vars t d'), F.hp, F.nu⟩ a w g := by
  intro d' hd'
  refine ⟨hR.sz, hR.df, fun u => ?_, hR.mem, hR.base, hR.keep, hR.gz, hR.gs, hR.nu⟩
  have hu := hR.rd u
  show rep (cx w g F.hp) (getR (put st.vars t d') u) _
  rw [hF.1] at hu
  have hg : getR (put st.vars t d') u = if t = u then d' else getR st.vars u := by
   unfold getR
   rw [zjz]
   by_cases hh : t = u <;> simp [hh]
  rw [hg]
  by_cases htu : t = u
  subst htu
  rw [if_pos rfl]
  exact hd'
  rw [if_neg htu]; exact hu
 rcases zsc _ _ hr with h | ⟨hl, h⟩
 exact h1 E ⟨getR (put st.vars t (.imm s l 2)), F.hp, F.nu⟩ a w g ⟨rfl, hF.2.1, hF.2.2⟩ (key _ h)
 exact h2 hl E ⟨getR (put st.vars t (.imm s l 0)), F.hp, F.nu⟩ a w g ⟨rfl, hF.2.1, hF.2.2⟩ (key _ h)
theorem zcm {i n : Nat} (h : i < n) (hn : (n : Int) <= 9223372036854775807) : wr .i64 ((i : Int) - 1) = (i : Int) - 1 :=
 zis _ _ (by show (-9223372036854775808 : Int) <= _; omega) (by show _ <= (9223372036854775807 : Int); omega)
theorem zx2 (i : Nat) : ((i : Int) - 1).toNat = i - 1 := by omega
theorem zqf {α : Type} [Inhabited α] (f : α -> D) (l : List α) (n : Nat) : nth (l.map f) n = f (l.getD n default) \/ nth (l.map f) n = .undef := by
 by_cases h : n < l.length
 exact .inl (zf8 f l n h)
 right
 unfold nth
 simp [Nat.le_of_not_lt h]
mutual
theorem zq6 (f : Nat -> Nat) : ∀ d : D, d.ids = [] -> d.ren f = d
 | .agg l, h => by simp only [D.ren, zki f l (by simpa only [D.ids] using h)]
 | .tuple l, h => by simp only [D.ren, zki f l (by simpa only [D.ids] using h)]
 | .fn g l, h => by simp only [D.ren, zki f l (by simpa only [D.ids] using h)]
 | .iface t d, h => by simp only [D.ren, zq6 f d (by simpa only [D.ids] using h)]
 | .when c d, h => by simp only [D.ren, zq6 f d (by simpa only [D.ids] using h)]
 | .ref _ _ _ _ _, h | .ptr _ _, h | .eptr _ _ _ _, h | .mref _, h => by simp [D.ids] at h
 | .bool _, _ | .int _ _, _ | .str _, _ | .imm _ _ _, _ | .iptr _ _, _ | .nilptr, _ | .nilfn, _ | .nilIface, _ | .nilmap, _ | .sc, _ | .undef, _ => by simp only [D.ren]
theorem zki (f : Nat -> Nat) : ∀ l : List D, D.idsL l = [] -> D.renL f l = l
 | [], _ => by simp only [D.renL]
 | d :: ds, h => by
  simp only [D.idsL, List.append_eq_nil_iff] at h
  simp only [D.renL, zq6 f d h.1, zki f ds h.2]
end
theorem zgl {l : List D} (h : ∀ hp, zf3 hp l = (l, true)) : D.idsL l = [] := by
 have := (zi5 (hp := fun _ => none) l (by rw [h])).2.1
 rwa [h] at this
theorem zdj {l : List D} (h : ∀ hp, zf3 hp l = (l, true)) (f : Nat -> Nat) : D.renL f l = l := zki f l (zgl h)
theorem zb5 {α : Type} (l : List α) : l = [] \/ ∃ y ys, l = y :: ys := by
 cases l with
 | nil => exact .inl rfl
 | cons y ys => exact .inr ⟨y, ys, rfl⟩
theorem znf {hp : Nat -> Option Blk} {nid el esz eby s c : Nat} {xs : List D} {px vx : Bool} (h : xs = []) : za8 hp nid el esz eby (.imm s [] c) xs px vx = some ⟨.imm esz [] c, vx, [], (0, 0), []⟩ := by subst h; rfl
theorem zma {hp : Nat -> Option Blk} {nid el esz eby s c : Nat} {xs : List D} {px vx : Bool} (h : xs ≠ []) : za8 hp nid el esz eby (.imm s [] c) xs px vx = some ⟨.ref nid esz 0 xs.length none, vx && (Nat.ble (c % 8) 1 || Nat.beq (c % 8) 3) && decide (xs.length * eby <= 140737488355328), [(nid, some (.arr el esz px xs))], (nid, nid + 1), []⟩ := by
 cases xs with
 | nil => exact absurd rfl h
 | cons x xs => rfl
theorem zk0 {α β : Type} (f : α -> β) (l : List α) (i : Nat) : (l.map f).drop i = (l.drop i).map f := List.map_drop.symm
theorem zit {α β : Type} (f : α -> β) (l : List α) (i : Nat) : (l.map f).take i = (l.take i).map f := List.map_take.symm
theorem zia {α β : Type} (f : α -> β) (l : List α) : (l.map f).take l.length = l.map f := by rw [zit, List.take_length]
theorem Wk.nil4 (s s' c : Nat) (_hc : c / 8 = 0) : Wk (.imm s [] c) (.imm s' [] 4) := fun C v h => zut rfl (by omega) C v h
theorem zhl {ops : Array Oper} {fps : Nat -> FP} (h : ((List.range ops.size).all fun i => (List.range i).all fun j => anc ops ops.size i j || okFP (fps j) (fps i)) = true) : zlk ops fps = true := by
 unfold zlk
 rw [<- h]
 congr 1
 funext i
 congr 1
 funext j
 rw [Bool.or_comm]
end Go.Tm
end
section
namespace Go.Tm
structure Seat (P : Program) (tab : Nat -> TI) : Prop where
 tm : zhv P tab
 mixed : P.follows .mixedOrders = true
section
variable {P : Program} {tab : Nat -> TI} {lim n : Nat}
theorem Ok.pl {id : Nat} {ops : Array Oper} {st st' : St} {vc : Bool} {acc : List FP} {Q : Exit -> St -> Prop} (S : Seat P tab) (V : List Nat) (hQ : Q .normal st') (hok : zoi n ops false = true := by decide +kernel)
  (h : zmb (runE tab true false ops.toList ops.toList ⟨keep V st.vars, st.heap, st.nx⟩ true []) st' vc acc [] := by intro q hq; simp only [go_sem, Nat.reduceSub, Int.reduceEq, Nat.reduceLT, Nat.reduceDiv, Nat.reduceAdd, Nat.reduceBEq, Nat.reduceLeDiff, reduceCtorEq, Nat.reduceEqDiff, Nat.reduceMod, Nat.reduceMul, za8]; exact hq)
  (hv : vc = true := by first | rfl | (simp only [go_sem, Nat.reduceLeDiff]; done) | (simp only [go_sem, Nat.reduceLeDiff]; rfl) | (simp; done) | (simp [oneD] <;> omega) | (simp_all; done) | (simp_all [oneD] <;> omega)) (hlim : st'.nx <= lim := by first | exact Nat.le_refl _ | exact lb rfl | (dsimp only; omega) | (simp <;> omega)) : Ok P lim n (.region id ops false) st Q :=
 .plain S.tm S.mixed V hok h hv hlim hQ
theorem Ok.plx {X : Prop} {id : Nat} {ops : Array Oper} {st st' : St} {vc : Bool} {acc : List FP} {Q : Exit -> St -> Prop} (S : Seat P tab) (x : X) (V : List Nat) (hQ : Q .normal st') (hok : zoi n ops false = true := by decide +kernel)
  (h : X -> zmb (runE tab true false ops.toList ops.toList ⟨keep V st.vars, st.heap, st.nx⟩ true []) st' vc acc [] := by intro x q hq; simp only [go_sem, Nat.reduceSub, Int.reduceEq, Nat.reduceLT, Nat.reduceDiv, Nat.reduceAdd, Nat.reduceBEq, Nat.reduceLeDiff, reduceCtorEq, Nat.reduceEqDiff, Nat.reduceMod, Nat.reduceMul, za8, x]; exact hq)
  (hv : vc = true := by first | rfl | (simp only [go_sem, Nat.reduceLeDiff]; done) | (simp only [go_sem, Nat.reduceLeDiff]; rfl) | (simp; done) | (simp [oneD] <;> omega) | (simp_all; done) | (simp_all [oneD] <;> omega)) (hlim : st'.nx <= lim := by first | exact Nat.le_refl _ | exact lb rfl | (dsimp only; omega) | (simp <;> omega)) : Ok P lim n (.region id ops false) st Q :=
 .plain S.tm S.mixed V hok (h x) hv hlim hQ
theorem Ok.dr {id : Nat} {ops : Array Oper} {st st' : St} {vc : Bool} {acc : List FP} {Q : Exit -> St -> Prop} (S : Seat P tab) (V : List Nat) (hQ : Q .normal st') (hok : zoi n ops true = true := by decide +kernel)
  (h : zmb (runE tab true true ops.toList ops.toList ⟨keep V st.vars, st.heap, st.nx⟩ true []) st' vc acc [] := by intro q hq; simp only [go_sem, Nat.reduceSub, Int.reduceEq, Nat.reduceLT, Nat.reduceDiv, Nat.reduceAdd, Nat.reduceBEq, Nat.reduceLeDiff, reduceCtorEq, Nat.reduceEqDiff, Nat.reduceMod, Nat.reduceMul, za8]; exact hq)
  (hs : zlk ops (fun i => (acc[i]?).getD zmz) = true := by exact zhl (by kernel_rfl))
  (hv : vc = true := by first | rfl | (simp only [go_sem, Nat.reduceLeDiff]; done) | (simp only [go_sem, Nat.reduceLeDiff]; rfl) | (simp; done) | (simp [oneD] <;> omega) | (simp_all; done) | (simp_all [oneD] <;> omega)) (hlim : st'.nx <= lim := by first | exact Nat.le_refl _ | exact lb rfl | (dsimp only; omega) | (simp <;> omega)) : Ok P lim n (.region id ops true) st Q :=
 .drawn S.tm S.mixed V hok h hs hv hlim hQ
theorem Ok.drx {X : Prop} {id : Nat} {ops : Array Oper} {st st' : St} {vc : Bool} {acc : List FP} {Q : Exit -> St -> Prop} (S : Seat P tab) (x : X) (V : List Nat) (hQ : Q .normal st') (hok : zoi n ops true = true := by decide +kernel)
  (h : X -> zmb (runE tab true true ops.toList ops.toList ⟨keep V st.vars, st.heap, st.nx⟩ true []) st' vc acc [] := by intro x q hq; simp only [go_sem, Nat.reduceSub, Int.reduceEq, Nat.reduceLT, Nat.reduceDiv, Nat.reduceAdd, Nat.reduceBEq, Nat.reduceLeDiff, reduceCtorEq, Nat.reduceEqDiff, Nat.reduceMod, Nat.reduceMul, za8, x]; exact hq)
  (hs : zlk ops (fun i => (acc[i]?).getD zmz) = true := by exact zhl (by kernel_rfl))
  (hv : vc = true := by first | rfl | (simp only [go_sem, Nat.reduceLeDiff]; done) | (simp only [go_sem, Nat.reduceLeDiff]; rfl) | (simp; done) | (simp [oneD] <;> omega) | (simp_all; done) | (simp_all [oneD] <;> omega)) (hlim : st'.nx <= lim := by first | exact Nat.le_refl _ | exact lb rfl | (dsimp only; omega) | (simp <;> omega)) : Ok P lim n (.region id ops true) st Q :=
 .drawn S.tm S.mixed V hok (h x) hs hv hlim hQ
theorem Ok.rg {id : Nat} {ops : Array Oper} {draw : Bool} {st : St} {Q : Exit -> St -> Prop} (S : Seat P tab) (V : List Nat) (h : RegA P tab true lim ops draw ⟨keep V st.vars, st.heap, st.nx⟩ (Q .normal)) (hok : zoi n ops draw = true := by decide +kernel) : Ok P lim n (.region id ops draw) st Q := Ok.region S.tm S.mixed V hok h
theorem WRun.rn {ops : Array Oper} (k : Nat) {l l' : List Oper} {st st' : St} {acc acc' : List FP} {Q : St -> List FP -> Prop} {vc : Bool}
  (hQ : WRun P tab true lim ops l' st' acc' Q) (hdr : false = true \/ ∀ st a b, Q st a -> Q st b := by exact .inr fun _ _ _ h => ⟨nofun, h.2⟩)
  (h : zmb (runK tab true false ops.toList k l st true acc) st' vc acc' l' := by intro q hq; simp only [go_sem, Nat.reduceSub, Int.reduceEq, Nat.reduceLT, Nat.reduceDiv, Nat.reduceAdd, Nat.reduceBEq, Nat.reduceLeDiff, reduceCtorEq, Nat.reduceEqDiff, Nat.reduceMod, Nat.reduceMul, za8]; exact hq) (hv : vc = true := by first | rfl | (simp only [go_sem, Nat.reduceLeDiff]; done) | (simp only [go_sem, Nat.reduceLeDiff]; rfl) | (simp; done) | (simp [oneD] <;> omega) | (simp_all; done) | (simp_all [oneD] <;> omega)) (hlim : st'.nx <= lim := by first | exact Nat.le_refl _ | exact lb rfl | (dsimp only; omega) | (simp <;> omega)) : WRun P tab true lim ops l st acc Q :=
 WRun.EN k h.eq hdr hv hlim hQ
theorem WRun.rnx {X : Prop} {ops : Array Oper} (k : Nat) {l l' : List Oper} {st st' : St} {acc acc' : List FP} {Q : St -> List FP -> Prop} {vc : Bool} (x : X)
  (hQ : WRun P tab true lim ops l' st' acc' Q) (hdr : false = true \/ ∀ st a b, Q st a -> Q st b := by exact .inr fun _ _ _ h => ⟨nofun, h.2⟩)
  (h : X -> zmb (runK tab true false ops.toList k l st true acc) st' vc acc' l' := by intro x q hq; simp only [go_sem, Nat.reduceSub, Int.reduceEq, Nat.reduceLT, Nat.reduceDiv, Nat.reduceAdd, Nat.reduceBEq, Nat.reduceLeDiff, reduceCtorEq, Nat.reduceEqDiff, Nat.reduceMod, Nat.reduceMul, za8, x]; exact hq) (hv : vc = true := by first | rfl | (simp only [go_sem, Nat.reduceLeDiff]; done) | (simp only [go_sem, Nat.reduceLeDiff]; rfl) | (simp; done) | (simp [oneD] <;> omega) | (simp_all; done) | (simp_all [oneD] <;> omega)) (hlim : st'.nx <= lim := by first | exact Nat.le_refl _ | exact lb rfl | (dsimp only; omega) | (simp <;> omega)) : WRun P tab true lim ops l st acc Q :=
 WRun.EN k (h x).eq hdr hv hlim hQ
theorem WRun.rd {ops : Array Oper} (k : Nat) {l l' : List Oper} {st st' : St} {acc acc' : List FP} {Q : St -> List FP -> Prop} {vc : Bool}
  (hQ : WRun P tab true lim ops l' st' acc' Q)
  (h : zmb (runK tab true true ops.toList k l st true acc) st' vc acc' l' := by intro q hq; simp only [go_sem, Nat.reduceSub, Int.reduceEq, Nat.reduceLT, Nat.reduceDiv, Nat.reduceAdd, Nat.reduceBEq, Nat.reduceLeDiff, reduceCtorEq, Nat.reduceEqDiff, Nat.reduceMod, Nat.reduceMul, za8]; exact hq) (hv : vc = true := by first | rfl | (simp only [go_sem, Nat.reduceLeDiff]; done) | (simp only [go_sem, Nat.reduceLeDiff]; rfl) | (simp; done) | (simp [oneD] <;> omega) | (simp_all; done) | (simp_all [oneD] <;> omega)) (hlim : st'.nx <= lim := by first | exact Nat.le_refl _ | exact lb rfl | (dsimp only; omega) | (simp <;> omega)) : WRun P tab true lim ops l st acc Q :=
 WRun.EN k h.eq (.inl rfl) hv hlim hQ
theorem WRun.rdx {X : Prop} {ops : Array Oper} (k : Nat) {l l' : List Oper} {st st' : St} {acc acc' : List FP} {Q : St -> List FP -> Prop} {vc : Bool} (x : X)
  (hQ : WRun P tab true lim ops l' st' acc' Q)
  (h : X -> zmb (runK tab true true ops.toList k l st true acc) st' vc acc' l' := by intro x q hq; simp only [go_sem, Nat.reduceSub, Int.reduceEq, Nat.reduceLT, Nat.reduceDiv, Nat.reduceAdd, Nat.reduceBEq, Nat.reduceLeDiff, reduceCtorEq, Nat.reduceEqDiff, Nat.reduceMod, Nat.reduceMul, za8, x]; exact hq) (hv : vc = true := by first | rfl | (simp only [go_sem, Nat.reduceLeDiff]; done) | (simp only [go_sem, Nat.reduceLeDiff]; rfl) | (simp; done) | (simp [oneD] <;> omega) | (simp_all; done) | (simp_all [oneD] <;> omega)) (hlim : st'.nx <= lim := by first | exact Nat.le_refl _ | exact lb rfl | (dsimp only; omega) | (simp <;> omega)) : WRun P tab true lim ops l st acc Q :=
 WRun.EN k (h x).eq (.inl rfl) hv hlim hQ
end
theorem za0 {α : Type} {b c : Prop} [Decidable c] {x y r : α} (h : (if c then x else y) = r) (hb : b) (hc : b -> c := by intro hb; first | exact hb | (simp at hb ⊢; done) | (simp at hb ⊢; exact hb) | (simp at hb ⊢; omega) | (simp at hb ⊢; grind) | grind) : x = r := ya4t h (hc hb)
theorem za1 {α : Type} {b c : Prop} [Decidable c] {x y r : α} (h : (if c then x else y) = r) (hb : b) (hc : b -> ¬ c := by intro hb; first | exact hb | (simp at hb ⊢; done) | (simp at hb ⊢; exact hb) | (simp at hb ⊢; omega) | (simp at hb ⊢; grind) | grind) : y = r := zxn h (hc hb)
theorem gd {b p : Prop} (hg : b) (h : b -> p := by intro hg; first | (simp only [opds, opd, ev, zsk, getR, getL, Nat.beq, cond_true, cond_false, Bool.not_true, Bool.false_or, Bool.and_true, Bool.true_and, Prod.mk.injEq, true_and]; done) | (simp only [opds, opd, ev, zsk, getR, getL, Nat.beq, cond_true, cond_false, Bool.not_true, Bool.false_or, Bool.and_true, Bool.true_and, Prod.mk.injEq, true_and]; first | exact hg | (simp at hg ⊢; done) | (simp at hg ⊢; exact hg) | (simp at hg ⊢; grind)) | rfl) : p := h hg
theorem rsi0 {tab : Nat -> TI} {st : St} {l : List ResultVar} {r : D} (h : zmq tab st l r := by simp only [zmq, resL, resD, resT, go_sem, Nat.reduceSub, Int.reduceEq, Nat.reduceLT, Nat.reduceDiv, Nat.reduceAdd, Nat.reduceBEq, Nat.reduceLeDiff, reduceCtorEq, Nat.reduceEqDiff, Nat.reduceMod, Nat.reduceMul, za8]) : zmq tab st l r := h
theorem rsi {tab : Nat -> TI} {st : St} {l : List ResultVar} {r : D} (h : zmq tab st l r := by simp only [zmq, resL, resD, resT, go_sem, Nat.reduceSub, Int.reduceEq, Nat.reduceLT, Nat.reduceDiv, Nat.reduceAdd, Nat.reduceBEq, Nat.reduceLeDiff, reduceCtorEq, Nat.reduceEqDiff, Nat.reduceMod, Nat.reduceMul, za8]) : ∃ ds, resL tab st l = some (ds, true) /\ resT ds = r := h.to
theorem Goes.m {lim n0 : Nat} {st s : St} (V H : List Nat) (ps : List (Nat × Nat)) (h1 : (⟨mvV (mvF ps) (zer V st.vars), mvH (mvF ps) (zer H st.heap), s.nx⟩ : St) = s := by first | with_reducible rfl | (simp only [go_sem, Nat.reduceBEq, Nat.reduceAdd]; done) | (simp only [go_sem, Nat.reduceBEq, Nat.reduceAdd]; with_reducible rfl) | rfl | (simp only [go_sem, Nat.reduceBEq, Nat.reduceAdd]; rfl))
  (h2 : n0 <= s.nx := by exact lb rfl) (h3 : s.nx <= lim := by exact lb rfl) (h4 : mvOk ps n0 s.nx (idsV (zer V st.vars) ++ idsH (zer H st.heap)) = true := by kernel_rfl) : Goes lim n0 st s := .mv V H ps h1 h2 h3 h4
theorem Goes.mx {X : Prop} {lim n0 : Nat} {st s : St} (x : X) (V H : List Nat) (ps : List (Nat × Nat)) (h1 : X -> (⟨mvV (mvF ps) (zer V st.vars), mvH (mvF ps) (zer H st.heap), s.nx⟩ : St) = s := by intro x; first | with_reducible rfl | (simp only [x, go_sem, Nat.reduceBEq, Nat.reduceAdd, Bool.false_and, Bool.true_or, Bool.and_false]; done) | (simp only [x, go_sem, Nat.reduceBEq, Nat.reduceAdd, Bool.false_and, Bool.true_or, Bool.and_false]; with_reducible rfl) | rfl | (simp only [x, go_sem, Nat.reduceBEq, Nat.reduceAdd, Bool.false_and, Bool.true_or, Bool.and_false]; rfl))
  (h2 : n0 <= s.nx := by exact lb rfl) (h3 : s.nx <= lim := by exact lb rfl) (h4 : mvOk ps n0 s.nx (idsV (zer V st.vars) ++ idsH (zer H st.heap)) = true := by kernel_rfl) : Goes lim n0 st s := .mv V H ps (h1 x) h2 h3 h4
end Go.Tm
end
section
namespace Go.Tm
theorem apn {xs : List D} (h : xs = []) : ∀ (hp : Nat -> Option Blk) (nid el esz eby s c : Nat) (px vx : Bool), za8 hp nid el esz eby (.imm s [] c) xs px vx = some ⟨.imm esz [] c, vx, [], (0, 0), []⟩ := fun _ _ _ _ _ _ _ _ _ => znf h
theorem apc {xs : List D} (h : xs ≠ []) : ∀ (hp : Nat -> Option Blk) (nid el esz eby s c : Nat) (px vx : Bool), za8 hp nid el esz eby (.imm s [] c) xs px vx = some ⟨.ref nid esz 0 xs.length none, vx && (Nat.ble (c % 8) 1 || Nat.beq (c % 8) 3) && decide (xs.length * eby <= 140737488355328), [(nid, some (.arr el esz px xs))], (nid, nid + 1), []⟩ := fun _ _ _ _ _ _ _ _ _ => zma h
section
variable {P : Program} {tab : Nat -> TI} {lim n : Nat}
theorem Ok.pp {id : Nat} {ops : Array Oper} {st st' : St} {vc : Bool} {acc : List FP} {Q : Exit -> St -> Prop} (S : Seat P tab) (V : List Nat)
  (h : zmb (runE tab true false ops.toList ops.toList ⟨keep V st.vars, st.heap, st.nx⟩ true []) st' vc acc []) (hQ : Q .normal st') (hok : zoi n ops false = true := by decide +kernel)
  (hv : vc = true := by first | rfl | (simp only [go_sem, Nat.reduceLeDiff]; done) | (simp only [go_sem, Nat.reduceLeDiff]; rfl) | (simp; done) | (simp [oneD] <;> omega) | (simp_all; done) | (simp_all [oneD] <;> omega)) (hlim : st'.nx <= lim := by first | exact Nat.le_refl _ | exact lb rfl | (dsimp only; omega) | (simp <;> omega)) : Ok P lim n (.region id ops false) st Q :=
 .plain S.tm S.mixed V hok h hv hlim hQ
theorem Ok.px {X : Prop} {id : Nat} {ops : Array Oper} {st st' : St} {vc : Bool} {acc : List FP} {Q : Exit -> St -> Prop} (S : Seat P tab) (x : X) (V : List Nat) (hQ : Q .normal st') (hok : zoi n ops false = true := by decide +kernel)
  (h : X -> zmb (runE tab true false ops.toList ops.toList ⟨keep V st.vars, st.heap, st.nx⟩ true []) st' vc acc [] := by intro x q hq; simp only [go_sem, Nat.reduceSub, Int.reduceEq, Nat.reduceLT, Nat.reduceDiv, Nat.reduceAdd, Nat.reduceBEq, Nat.reduceLeDiff, reduceCtorEq, Nat.reduceEqDiff, Nat.reduceMod, Nat.reduceMul, x]; exact hq)
  (hv : vc = true := by first | rfl | (simp only [go_sem, Nat.reduceLeDiff]; done) | (simp only [go_sem, Nat.reduceLeDiff]; rfl) | (simp; done) | (simp [oneD] <;> omega) | (simp_all; done) | (simp_all [oneD] <;> omega)) (hlim : st'.nx <= lim := by first | exact Nat.le_refl _ | exact lb rfl | (dsimp only; omega) | (simp <;> omega)) : Ok P lim n (.region id ops false) st Q :=
 .plain S.tm S.mixed V hok (h x) hv hlim hQ
theorem Ok.dx {X : Prop} {id : Nat} {ops : Array Oper} {st st' : St} {vc : Bool} {acc : List FP} {Q : Exit -> St -> Prop} (S : Seat P tab) (x : X) (V : List Nat) (hQ : Q .normal st') (hok : zoi n ops true = true := by decide +kernel)
  (h : X -> zmb (runE tab true true ops.toList ops.toList ⟨keep V st.vars, st.heap, st.nx⟩ true []) st' vc acc [] := by intro x q hq; simp only [go_sem, Nat.reduceSub, Int.reduceEq, Nat.reduceLT, Nat.reduceDiv, Nat.reduceAdd, Nat.reduceBEq, Nat.reduceLeDiff, reduceCtorEq, Nat.reduceEqDiff, Nat.reduceMod, Nat.reduceMul, x]; exact hq)
  (hs : zlk ops (fun i => (acc[i]?).getD zmz) = true := by exact zhl (by kernel_rfl))
  (hv : vc = true := by first | rfl | (simp only [go_sem, Nat.reduceLeDiff]; done) | (simp only [go_sem, Nat.reduceLeDiff]; rfl) | (simp; done) | (simp [oneD] <;> omega) | (simp_all; done) | (simp_all [oneD] <;> omega)) (hlim : st'.nx <= lim := by first | exact Nat.le_refl _ | exact lb rfl | (dsimp only; omega) | (simp <;> omega)) : Ok P lim n (.region id ops true) st Q :=
 .drawn S.tm S.mixed V hok (h x) hs hv hlim hQ
theorem WRun.rx {X1 X2 X3 X4 : Prop} {ops : Array Oper} (k : Nat) {l l' : List Oper} {st st' : St} {acc acc' : List FP} {Q : St -> List FP -> Prop} {vc : Bool} (x1 : X1) (x2 : X2) (x3 : X3) (x4 : X4)
  (hQ : WRun P tab true lim ops l' st' acc' Q)
  (h : X1 -> X2 -> X3 -> X4 -> zmb (runK tab true true ops.toList k l st true acc) st' vc acc' l' := by intro x1 x2 x3 x4 q hq; simp only [go_sem, Nat.reduceSub, Int.reduceEq, Nat.reduceLT, Nat.reduceDiv, Nat.reduceAdd, Nat.reduceBEq, Nat.reduceLeDiff, reduceCtorEq, Nat.reduceEqDiff, Nat.reduceMod, Nat.reduceMul, x1, x2, x3, x4]; exact hq)
  (hv : vc = true := by first | rfl | (simp only [go_sem, Nat.reduceLeDiff]; done) | (simp only [go_sem, Nat.reduceLeDiff]; rfl) | (simp; done) | (simp [oneD] <;> omega) | (simp_all; done) | (simp_all [oneD] <;> omega)) (hlim : st'.nx <= lim := by first | exact Nat.le_refl _ | exact lb rfl | (dsimp only; omega) | (simp <;> omega)) : WRun P tab true lim ops l st acc Q :=
 WRun.EN k (h x1 x2 x3 x4).eq (.inl rfl) hv hlim hQ
end
end Go.Tm
end
section
namespace Go.Tm
section
variable {P : Program} {tab : Nat -> TI} {lim n : Nat}
theorem WRun.nd {own dr : Bool} {ops : Array Oper} {st : St} {acc : List FP} {Q : St -> Prop} (hQ : Q st) (hs : zlk ops (fun i => (acc[i]?).getD zmz) = true := by exact zhl (by kernel_rfl)) : WRun P tab own lim ops [] st acc (fun st' fps => (dr = true -> zlk ops (fun i => (fps[i]?).getD zmz) = true) /\ Q st') := .nil ⟨fun _ => hs, hQ⟩
theorem WRun.cl {ops : Array Oper} {o : Oper} {l : List Oper} {st : St} {acc : List FP} {Q : St -> List FP -> Prop} {c : Call} {f : Operand} {K : FuncId} {caps ds args : List D} {r : D}
  (hK : zb7 P K args r) (hQ : WRun P tab true lim ops l (st.app o.dst { d := r, vc := true }) (acc ++ [fpOf o (st.fs lim) { d := r, vc := true }]) Q)
  (ho : o.op = .call c := by exact rfl) (hc : c.callee = .value f := by exact rfl) (hg : o.guard = none := by exact rfl) (hf : opd true (getR st.vars) f = (.fn (.func K) caps, true) := by exact rfl) (hds : opds true (getR st.vars) c.args.toList = (ds, true) := by exact rfl) (hl : zf3 (getL st.heap) (ds ++ caps) = (args, true) := by exact rfl) : WRun P tab true lim ops (o :: l) st acc Q :=
 .call ho hc hg hf hds hl hK hQ
theorem Ok.cd {c x y st b} {Q : Exit -> St -> Prop} (h1 : b = true -> Ok P lim n x st Q) (h2 : b = false -> Ok P lim n y st Q) (hk : zc6 c = true := by exact rfl) (hc : ev (getR st.vars) c = .bool b := by exact rfl) : Ok P lim n (.cond c x y) st Q :=
 .cond hk hc h1 h2
theorem WRun.nn {own : Bool} {ops : Array Oper} {st : St} {acc : List FP} {Q : St -> Prop} (hQ : Q st) : WRun P tab own lim ops [] st acc (fun st' fps => (false = true -> zlk ops (fun i => (fps[i]?).getD zmz) = true) /\ Q st') := .nil ⟨nofun, hQ⟩
theorem Ok.rr {st : St} {Q : Exit -> St -> Prop} (h : Q .ret st := by exact ⟨.inr rfl, rsi⟩) : Ok P lim n .ret st Q := .ret h
theorem Wk.iz {s : Nat} {l : List D} {c : Nat} (hc : c < 8 := by decide) : Wk (.imm s l c) (.imm s l 4) := Wk.imm4 _ _ hc
end
end Go.Tm
end
section
namespace Go.Tm
structure PlN {α : Type} (f g : α -> D) : Prop where
 un : ∀ x, unf (f x) = g x
 ids : ∀ x, (f x).ids = []
 lo : ∀ x, okM low3 (f x) = true
 nw : ∀ x, okM new1 (f x) = true
section
variable {α : Type} {f g : α -> D} (hf : PlN f g)
include hf
theorem PlN.unfL (l : List α) : Tm.unfL (l.map f) = l.map g := by
 induction l with
 | nil => rfl
 | cons x l ih => simp only [List.map_cons, Tm.unfL, hf.un, ih]
theorem PlN.idsL (l : List α) : D.idsL (l.map f) = [] := by
 induction l with
 | nil => rfl
 | cons x l ih => simp only [List.map_cons, D.idsL, hf.ids, ih, List.nil_append]
theorem PlN.okNw (l : List α) : Tm.okML new1 (l.map f) = true := by
 induction l with
 | nil => rfl
 | cons x l ih => simp only [List.map_cons, Tm.okML, hf.nw, ih, Bool.and_self]
theorem zwl {hp : Nat -> Option Blk} {id s e n : Nat} {oc : Option Nat} {l : List α} (h : hp id = some (.arr e s true (l.map f))) (hn : n = l.length) : frz hp (.ref id s 0 n oc) = (.imm s (l.map g) 13, true) := by
 subst hn
 have ht : (l.map f).take l.length = l.map f := List.take_of_length_le (by simp)
 simp only [frz, h, List.drop_zero, ht, hf.unfL, hf.okNw, hf.idsL, List.length_map, Nat.zero_add, Nat.beq_refl, List.isEmpty_nil, Bool.and_true, Bool.true_and, Prod.mk.injEq, true_and]
 exact Nat.ble_eq_true_of_le (Nat.le_refl _)
theorem ztx (e s : Nat) (l : List α) : newB (some (.arr e s true (l.map f))) = true := by simp only [newB, hf.okNw, Bool.and_self]
end
theorem zjy {α : Type} {f g : α -> D} (m : Nat) (h : ∀ x, mkM m (g x) = f x) (l : List α) : mkML m (l.map g) = l.map f := by
 induction l with
 | nil => rfl
 | cons x l ih => simp only [List.map_cons, mkML, h, ih]
def WkN (d d' : D) : Prop := ∀ (fr : Nat) (w : World) (g : Gh) (hp : Nat -> Option Blk) (nu : Nat -> Bool), Mem fr w g hp nu -> ∀ (q : Bool) (v : Value), rep { cx w g hp with rf := q } d v -> rep { cx w g hp with rf := q } d' v
theorem WkN.refl (d : D) : WkN d d := fun _ _ _ _ _ _ _ _ h => h
theorem WkN.nil12 (s s' c : Nat) : WkN (.imm s [] c) (.imm s' [] 13) := by
 intro fr w g hp nu _ q v h
 simp only [rep] at h ⊢
 obtain ⟨a, cap, rfl, h1, h2, _, _, _, h6, _⟩ := h
 exact ⟨a, cap, rfl, h1, h2, by simp, by simp, by simp, h6, fun _ => rfl, .inl trivial⟩
def WkNs : List D -> List D -> Prop
 | [], [] => True
 | d :: l, d' :: l' => WkN d d' /\ WkNs l l'
 | _, _ => False
theorem WkNs.refl : ∀ l : List D, WkNs l l
 | [] => trivial
 | d :: l => ⟨.refl d, WkNs.refl l⟩
theorem WkNs.cons {d d' : D} {l l' : List D} (h : WkN d d') (hl : WkNs l l') : WkNs (d :: l) (d' :: l') := ⟨h, hl⟩
theorem WkNs.nil : WkNs [] [] := trivial
theorem WkNs.len : ∀ {a b : List D}, WkNs a b -> a.length = b.length
 | [], [], _ => rfl
 | _ :: _, _ :: _, h => by simp only [List.length_cons, WkNs.len h.2]
 | [], _ :: _, h => h.elim
 | _ :: _, [], h => h.elim
theorem WkNs.reps {fr : Nat} {w : World} {g : Gh} {hp : Nat -> Option Blk} {nu : Nat -> Bool} (hM : Mem fr w g hp nu) (q : Bool) : ∀ {l l' : List D}, WkNs l l' -> ∀ vs, Tm.reps { cx w g hp with rf := q } l vs -> Tm.reps { cx w g hp with rf := q } l' vs
 | [], [], _, vs, h => h
 | d :: l, d' :: l', hw, vs, h => by
  simp only [Tm.reps] at h ⊢
  obtain ⟨v, vs', e, h1, h2⟩ := h
  exact ⟨v, vs', e, hw.1 fr w g hp nu hM q v h1, WkNs.reps hM q hw.2 vs' h2⟩
 | [], _ :: _, hw, _, _ => hw.elim
 | _ :: _, [], hw, _, _ => hw.elim
theorem WkNs.elems {fr : Nat} {w : World} {g : Gh} {hp : Nat -> Option Blk} {nu : Nat -> Bool} (hM : Mem fr w g hp nu) (q : Bool) : ∀ {l l' : List D}, WkNs l l' -> ∀ b o s, Tm.elems { cx w g hp with rf := q } l b o s -> Tm.elems { cx w g hp with rf := q } l' b o s
 | [], [], _, _, _, _, h => h
 | d :: l, d' :: l', hw, b, o, s, h => by
  simp only [Tm.elems] at h ⊢
  obtain ⟨⟨v, h1, h2⟩, h3⟩ := h
  exact ⟨⟨v, hw.1 fr w g hp nu hM q v h1, h2⟩, WkNs.elems hM q hw.2 b (o + s) s h3⟩
 | [], _ :: _, hw, _, _, _, _ => hw.elim
 | _ :: _, [], hw, _, _, _, _ => hw.elim
theorem WkN.agg {l l' : List D} (h : WkNs l l') : WkN (.agg l) (.agg l') := by
 intro fr w g hp nu hM q v hv
 simp only [rep] at hv ⊢
 obtain ⟨cs, e, hc⟩ := hv
 exact ⟨cs, e, WkNs.reps hM q h _ hc⟩
theorem Goes.arr {lim n0 : Nat} {st s : St} (id : Nat) (items items' : List D) {e s' : Nat} {p : Bool} (hd : getL st.heap id = some (.arr e s' p items)) (hw : WkNs items items') (h : Goes lim n0 ⟨st.vars, put st.heap id (.arr e s' p items'), st.nx⟩ s) : Goes lim n0 st s := by
 intro E n F a w g hE hF hR
 obtain ⟨h1, h2, h3⟩ := hF
 have hid : F.hp id = some (.arr e s' p items) := by rw [h2]; exact hd
 have hp : ∀ i, getL (put st.heap id (.arr e s' p items')) i = if id = i then some (.arr e s' p items') else F.hp i := by
  intro i; rw [zjz, h2]
 have hne : ∀ i, getL (put st.heap id (.arr e s' p items')) i ≠ none ↔ F.hp i ≠ none := by
  intro i
  rw [hp]
  by_cases e : id = i
  subst e; simp [hid]
  rw [if_neg e]
 have hown : ownB g (getL (put st.heap id (.arr e s' p items'))) = ownB g F.hp := by
  funext b
  apply propext
  constructor
  rintro ⟨i, o, k1, k2⟩; exact ⟨i, o, (hne i).1 k1, k2⟩
  rintro ⟨i, o, k1, k2⟩; exact ⟨i, o, (hne i).2 k1, k2⟩
 have hcx : cx w g (getL (put st.heap id (.arr e s' p items'))) = cx w g F.hp := by simp only [cx, hown]
 refine h E n ⟨F.rd, getL (put st.heap id (.arr e s' p items')), F.nu⟩ a w g hE ⟨h1, rfl, h3⟩ ⟨hR.sz, hR.df, fun t => by rw [hcx]; exact hR.rd t, ⟨fun i blk hb => ?_, fun i i' b o o' k1 k2 => hR.mem.inj i i' b o o' ((hne i).1 k1) ((hne i').1 k2), fun i hi => ?_, ?_, hR.mem.fl⟩, fun i b o k1 => hR.base i b o ((hne i).1 k1), hR.keep, hR.gz, hR.gs, hR.nu⟩
 have hb : getL (put st.heap id (.arr e s' p items')) i = some blk := hb
 rw [hcx]
 rw [hp] at hb
 by_cases e : id = i
 subst e
 rw [if_pos rfl] at hb
 cases hb
 rcases hR.mem.hd id _ hid with ⟨e1, e2⟩ | ⟨b, cs, e1, e2, e3, e4⟩
 subst e1
 have : items' = [] := List.eq_nil_of_length_eq_zero hw.len.symm
 exact .inl ⟨this, e2⟩
 exact .inr ⟨b, cs, e1, e2, by rw [<- hw.len]; exact e3, WkNs.elems hR.mem _ hw _ _ _ e4⟩
 rw [if_neg e] at hb
 exact hR.mem.hd i blk hb
 obtain ⟨k1, k2⟩ := hR.mem.nw i hi
 refine ⟨k1, ?_⟩
 rcases Classical.em (getL (put st.heap id (.arr e s' p items')) i = none) with e | e
 exact e
 exact absurd k2 ((hne i).1 e)
 rw [hown]; exact hR.mem.zs
theorem zgr {α : Type} (f : α -> D) (l : List α) (i : Nat) (x : α) : setN (l.map f) i (f x) = (l.set i x).map f := by
 unfold setN
 exact List.map_set.symm
end Go.Tm
namespace Go.Tm
theorem zz6 (d : D) : mkZ 1 d = mkM 1 d := rfl
theorem ya0n (l : List D) : mkZL 1 l = mkML 1 l := rfl
theorem ya2i (k : IntKind) (l : List Int) : mkML 1 (l.map (D.int k)) = l.map (D.int k) := zjy 1 (fun _ => rfl) l
theorem ya2h (l : List (List UInt8)) : mkML 1 (l.map D.str) = l.map D.str := zjy 1 (fun _ => rfl) l
theorem ya0o (l : List Bool) : mkML 1 (l.map D.bool) = l.map D.bool := zjy 1 (fun _ => rfl) l
theorem Goes.refl {lim n0 : Nat} {st : St} : Goes lim n0 st st := fun _ _ F _ _ g _ hF hR => ⟨F, g, hF, hR⟩
theorem WkNs.set {α : Type} {f : α -> D} (l : List α) (i : Nat) (x : α) {d : D} (h : WkN d (f x)) : WkNs (setN (l.map f) i d) ((l.set i x).map f) := by
 unfold setN
 induction l generalizing i with
 | nil => exact trivial
 | cons y l ih =>
  cases i with
  | zero => exact ⟨h, .refl _⟩
  | succ i => exact ⟨.refl _, ih i⟩
theorem Ok.arr {P : Program} {lim n : Nat} {c : Code} {st : St} {Q : Exit -> St -> Prop} (id : Nat) (items items' : List D) {e s' : Nat} {p : Bool} (hd : getL st.heap id = some (.arr e s' p items)) (hw : WkNs items items') (k : Ok P lim n c ⟨st.vars, put st.heap id (.arr e s' p items'), st.nx⟩ Q) : Ok P lim n c st Q :=
 .goes (.arr id items items' hd hw .refl) k
end Go.Tm
namespace Go.Tm
def zy2 (l : List Int) : List UInt8 := l.map fun n => UInt8.ofNat n.toNat
def zz1 (l : List UInt8) : List Int := l.map fun b => (b.toNat : Int)
theorem zxu (l : List Int) : zm9 (l.map (D.int .u8)) = some (zy2 l) := by
 induction l with
 | nil => rfl
 | cons x l ih => simp only [List.map_cons, zm9, ih, zy2]
theorem ya4q (l : List UInt8) : l.map ub = (zz1 l).map (D.int .u8) := by
 simp only [zz1, List.map_map]; rfl
end Go.Tm
namespace Go.Tm
end Go.Tm
namespace Go.Tm
def WkGs : List D -> List D -> Prop
 | [], [] => True
 | d :: l, d' :: l' => WkG d d' /\ WkGs l l'
 | _, _ => False
theorem WkG.refl (d : D) : WkG d d := fun _ _ _ _ _ _ _ h => h
theorem WkGs.nil : WkGs [] [] := trivial
theorem WkGs.cons {d d' : D} {l l' : List D} (h : WkG d d') (hl : WkGs l l') : WkGs (d :: l) (d' :: l') := ⟨h, hl⟩
theorem WkGs.keep {d : D} {l l' : List D} (hl : WkGs l l') : WkGs (d :: l) (d :: l') := ⟨.refl d, hl⟩
theorem WkGs.refl : ∀ l : List D, WkGs l l
 | [] => trivial
 | d :: l => ⟨.refl d, WkGs.refl l⟩
theorem WkGs.reps {fr : Nat} {w : World} {g : Gh} {hp : Nat -> Option Blk} {nu : Nat -> Bool} (hM : Mem fr w g hp nu) : ∀ {l l' : List D}, WkGs l l' -> ∀ vs, Tm.reps (cx w g hp) l vs -> Tm.reps (cx w g hp) l' vs
 | [], [], _, vs, h => h
 | d :: l, d' :: l', hw, vs, h => by
  simp only [Tm.reps] at h ⊢
  obtain ⟨v, vs', e, h1, h2⟩ := h
  exact ⟨v, vs', e, hw.1 fr w g hp nu hM v h1, WkGs.reps hM hw.2 vs' h2⟩
 | [], _ :: _, hw, _, _ => hw.elim
 | _ :: _, [], hw, _, _ => hw.elim
theorem Goes.boxs {lim n0 : Nat} {st s : St} (id : Nat) (cells cells' : List D) (hd : getL st.heap id = some (.box cells)) (hw : WkGs cells cells') (h : Goes lim n0 ⟨st.vars, put st.heap id (.box cells'), st.nx⟩ s) : Goes lim n0 st s := by
 intro E n F a w g hE hF hR
 obtain ⟨h1, h2, h3⟩ := hF
 have hid : F.hp id = some (.box cells) := by rw [h2]; exact hd
 have hp : ∀ i, getL (put st.heap id (.box cells')) i = if id = i then some (.box cells') else F.hp i := by
  intro i; rw [zjz, h2]
 have hne : ∀ i, getL (put st.heap id (.box cells')) i ≠ none ↔ F.hp i ≠ none := by
  intro i
  rw [hp]
  by_cases e : id = i
  subst e; simp [hid]
  rw [if_neg e]
 have hown : ownB g (getL (put st.heap id (.box cells'))) = ownB g F.hp := by
  funext b
  apply propext
  constructor
  rintro ⟨i, o, k1, k2⟩; exact ⟨i, o, (hne i).1 k1, k2⟩
  rintro ⟨i, o, k1, k2⟩; exact ⟨i, o, (hne i).2 k1, k2⟩
 have hcx : cx w g (getL (put st.heap id (.box cells'))) = cx w g F.hp := by simp only [cx, hown]
 refine h E n ⟨F.rd, getL (put st.heap id (.box cells')), F.nu⟩ a w g hE ⟨h1, rfl, h3⟩ ⟨hR.sz, hR.df, fun t => by rw [hcx]; exact hR.rd t, ⟨fun i blk hb => ?_, fun i i' b o o' k1 k2 => hR.mem.inj i i' b o o' ((hne i).1 k1) ((hne i').1 k2), fun i hi => ?_, ?_, hR.mem.fl⟩, fun i b o k1 => hR.base i b o ((hne i).1 k1), hR.keep, hR.gz, hR.gs, hR.nu⟩
 have hb : getL (put st.heap id (.box cells')) i = some blk := hb
 rw [hcx]
 rw [hp] at hb
 by_cases e : id = i
 subst e
 rw [if_pos rfl] at hb
 cases hb
 obtain ⟨b, cs, T, e1, e2, e3, e4⟩ := hR.mem.hd id _ hid
 exact ⟨b, cs, T, e1, e2, hw.reps hR.mem _ e3, e4⟩
 rw [if_neg e] at hb
 exact hR.mem.hd i blk hb
 obtain ⟨k1, k2⟩ := hR.mem.nw i hi
 refine ⟨k1, ?_⟩
 rcases Classical.em (getL (put st.heap id (.box cells')) i = none) with e | e
 exact e
 exact absurd k2 ((hne i).1 e)
 rw [hown]; exact hR.mem.zs
end Go.Tm
namespace Go.Tm
end Go.Tm
namespace Go.Tm
theorem za5 {P : Program} {K : FuncId} {args : List D} {H : List (Nat × Blk)} {r : D} {eff : List (Nat × Option Blk)} {nw : Nat × Nat} (a b : Nat) (h : zd1 P K args H r eff nw) (ha : Nat.blt a nw.1 = true := by rfl) (hb : Nat.blt b nw.1 = true := by rfl) :
  zd1 P K (D.renL (sw a b) args) (mvH (sw a b) H) (r.ren (sw a b)) (renE (sw a b) eff) nw := by
 refine zo7 (π := sw a b) (ya5m a b) nw (fun id h1 h2 => ?_) h
 have ha := lb ha
 have hb := lb hb
 have e : sw a b id = id := by
  unfold sw
  rw [zc4 (by omega), zc4 (by omega)]; rfl
 rw [e]; exact ⟨h1, h2⟩
theorem zo8 {P : Program} {K : FuncId} {args : List D} {H : List (Nat × Blk)} {r : D} {eff : List (Nat × Option Blk)} {a b : Nat} (n : Nat) (h : zd1 P K args H r eff (a, b)) (hn : Nat.ble (n + (b - a)) a = true := by rfl) :
  zd1 P K (D.renL (bsw n a (b - a)) args) (mvH (bsw n a (b - a)) H) (r.ren (bsw n a (b - a))) (renE (bsw n a (b - a)) eff) (n, n + (b - a)) := by
 have hn := lb hn
 refine zo7 (π := bsw n a (b - a)) (zvs hn) _ (fun id h1 h2 => ?_) h
 have h1 : a <= id := h1
 have h2 : id < b := h2
 have e1 : (Nat.ble n id && Nat.blt id (n + (b - a))) = false := by
  rw [<- Bool.not_eq_true]; simp only [Bool.and_eq_true]
  rintro ⟨_, k⟩
  have := lb k
  omega
 have e2 : (Nat.ble a id && Nat.blt id (a + (b - a))) = true := by
  simp only [Bool.and_eq_true]
  exact ⟨Nat.ble_eq_true_of_le h1, Nat.ble_eq_true_of_le (by omega)⟩
 simp only [bsw, e1, e2, cond_false, cond_true]
 omega
end Go.Tm
namespace Go.Tm
theorem zjx (a b : Nat) : Nat.beq a b = (a == b) := by
 by_cases h : a = b
 subst h; simp
 rw [zc4 h]; exact (beq_eq_false_iff_ne.2 h).symm
end Go.Tm
namespace Go.Tm
theorem ya14 {P : Program} {K : FuncId} {args : List D} {r : D} (he : zpb P K) (h : wfL args -> zb7 P K args r) : zb7 P K args r :=
 ⟨he, fun w vs hvs => (h (zn1 _ _ hvs)).2 w vs hvs⟩
end Go.Tm
namespace Go.Tm
def mget {α β : Type} [DecidableEq α] (k : α) : List (α × β) -> Option β
 | [] => none
 | x :: l => if k = x.1 then some x.2 else mget k l
def mapD {α β : Type} (f : α -> D) (g : β -> D) (l : List (α × β)) : List (D × D) := l.map fun x => (f x.1, g x.2)
theorem zzm {β : Type} (q : IntKind) (g : β -> D) (k : Int) (l : List (Int × β)) : zrg (.int q k) (mapD (D.int q) g l) = some ((mget k l).map g) := by
 induction l with
 | nil => rfl
 | cons x l ih =>
  simp only [mapD, List.map_cons, zrg, zoo, decide_true, cond_true, mget] at ih ⊢
  by_cases h : k = x.1
  simp [h]
  have : (k == x.1) = false := beq_eq_false_iff_ne.2 h
  simp only [this, h, if_false]
  exact ih
theorem zzl {β : Type} (g : β -> D) (k : List UInt8) (l : List (List UInt8 × β)) : zrg (.str k) (mapD D.str g l) = some ((mget k l).map g) := by
 induction l with
 | nil => rfl
 | cons x l ih =>
  simp only [mapD, List.map_cons, zrg, zoo, mget] at ih ⊢
  by_cases h : k = x.1
  simp [h]
  have : (k == x.1) = false := beq_eq_false_iff_ne.2 h
  simp only [this, h, if_false]
  exact ih
theorem zsu {α : Type} (f : α -> D) (z : α) (o : Option α) : (o.map f).getD (f z) = f (o.getD z) := by cases o <;> rfl
theorem ya0w (q : IntKind) (z : Int) (o : Option Int) : (o.map (D.int q)).getD (.int q z) = .int q (o.getD z) := zsu _ z o
theorem ya0v (z : List UInt8) (o : Option (List UInt8)) : (o.map D.str).getD (.str z) = .str (o.getD z) := zsu _ z o
theorem zzi (z : Bool) (o : Option Bool) : (o.map D.bool).getD (.bool z) = .bool (o.getD z) := zsu _ z o
end Go.Tm
namespace Go.Tm
end Go.Tm
end
section
namespace Go.Tm
def mx {α : Type} (f g : α -> D) (k : Nat) (l : List α) : List D := (l.take k).map f ++ (l.drop k).map g
section
variable {α : Type} (f g : α -> D)
theorem ya4n (k : Nat) (l : List α) : (mx f g k l).length = l.length := by
 simp only [mx, List.length_append, List.length_map, List.length_take, List.length_drop]; omega
theorem ya1e [Inhabited α] {k : Nat} {l : List α} (h : k < l.length) : nth (mx f g k l) k = g (l.getD k default) := by
 unfold nth mx
 rw [List.getD_eq_getElem?_getD, List.getElem?_append_right (by simp; omega)]
 simp [List.getElem?_drop, h, show min k l.length = k by omega]
theorem ya4m {k : Nat} {l : List α} (y : α) (h : k < l.length) : setN (mx f g k l) k (f y) = mx f g (k + 1) (l.set k y) := by
 unfold setN mx
 have e : ((l.take k).map f).length = k := by simp; omega
 rw [List.set_append_right _ _ (by omega), e, Nat.sub_self]
 have h1 : l.drop k = l[k] :: l.drop (k + 1) := List.drop_eq_getElem_cons h
 rw [h1, List.map_cons, List.set_cons_zero]
 have h2 : (l.set k y).take (k + 1) = l.take k ++ [y] := by
  rw [List.take_succ_eq_append_getElem (by simpa using h)]
  simp [List.take_set_of_le]
 have h3 : (l.set k y).drop (k + 1) = l.drop (k + 1) := by
  rw [List.drop_set_of_lt (by omega)]
 rw [h2, h3]
 simp
theorem ya2e (l : List α) : mx f g 0 l = l.map g := by simp [mx]
theorem ya4o {k : Nat} {l : List α} (h : l.length <= k) : mx f g k l = l.map f := by
 unfold mx
 rw [List.take_of_length_le h, List.drop_of_length_le h]
 simp
theorem WkNs.of_eq {l l' : List D} (h : l = l') : WkNs l l' := h ▸ .refl l
theorem WkNs.mx0 (l : List α) : WkNs (l.map g) (mx f g 0 l) := .of_eq (ya2e f g l).symm
theorem WkNs.mxk {k k' : Nat} (l : List α) (h : k = k') : WkNs (mx f g k l) (mx f g k' l) := .of_eq (by rw [h])
theorem WkNs.mxe {k : Nat} {l : List α} (h : l.length <= k) : WkNs (mx f g k l) (l.map f) := .of_eq (ya4o f g h)
end
theorem zx1 {n : Int} {l : Nat} (h : 0 <= n /\ n < (l : Int)) (hl : l < 1000000) : n.toNat + 1 = (wr .i64 (n + 1)).toNat := by
 rw [zis _ _ (by show (-9223372036854775808 : Int) <= _; omega) (by show _ <= (9223372036854775807 : Int); omega)]
 omega
theorem Goes.pre {lim n0 : Nat} {st s : St} (id k : Nat) (items : List D) {e s' : Nat} {p : Bool} (hd : getL st.heap id = some (.arr e s' p items)) (h : Goes lim n0 ⟨st.vars, put st.heap id (.arr e s' p (items.take k)), st.nx⟩ s) : Goes lim n0 st s := by
 intro E n F a w g hE hF hR
 obtain ⟨h1, h2, h3⟩ := hF
 let items' := items.take k
 have hid : F.hp id = some (.arr e s' p items) := by rw [h2]; exact hd
 have hp : ∀ i, getL (put st.heap id (.arr e s' p items')) i = if id = i then some (.arr e s' p items') else F.hp i := by
  intro i; rw [zjz, h2]
 have hne : ∀ i, getL (put st.heap id (.arr e s' p items')) i ≠ none ↔ F.hp i ≠ none := by
  intro i
  rw [hp]
  by_cases e : id = i
  subst e; simp [hid]
  rw [if_neg e]
 have hown : ownB g (getL (put st.heap id (.arr e s' p items'))) = ownB g F.hp := by
  funext b
  apply propext
  constructor
  rintro ⟨i, o, k1, k2⟩; exact ⟨i, o, (hne i).1 k1, k2⟩
  rintro ⟨i, o, k1, k2⟩; exact ⟨i, o, (hne i).2 k1, k2⟩
 have hcx : cx w g (getL (put st.heap id (.arr e s' p items'))) = cx w g F.hp := by simp only [cx, hown]
 refine h E n ⟨F.rd, getL (put st.heap id (.arr e s' p items')), F.nu⟩ a w g hE ⟨h1, rfl, h3⟩ ⟨hR.sz, hR.df, fun t => by rw [hcx]; exact hR.rd t, ⟨fun i blk hb => ?_, fun i i' b o o' k1 k2 => hR.mem.inj i i' b o o' ((hne i).1 k1) ((hne i').1 k2), fun i hi => ?_, ?_, hR.mem.fl⟩, fun i b o k1 => hR.base i b o ((hne i).1 k1), hR.keep, hR.gz, hR.gs, hR.nu⟩
 have hb : getL (put st.heap id (.arr e s' p items')) i = some blk := hb
 rw [hcx]
 rw [hp] at hb
 by_cases e : id = i
 subst e
 rw [if_pos rfl] at hb
 cases hb
 rcases hR.mem.hd id _ hid with ⟨e1, e2⟩ | ⟨b, cs, e1, e2, e3, e4⟩
 exact .inl ⟨by simp [items', e1], e2⟩
 refine .inr ⟨b, cs, e1, e2, Nat.le_trans (Nat.mul_le_mul_right _ (by simp [items']; omega)) e3, zga _ _ _ _ _ e4⟩
 rw [if_neg e] at hb
 exact hR.mem.hd i blk hb
 obtain ⟨k1, k2⟩ := hR.mem.nw i hi
 refine ⟨k1, ?_⟩
 rcases Classical.em (getL (put st.heap id (.arr e s' p items')) i = none) with e | e
 exact e
 exact absurd k2 ((hne i).1 e)
 rw [hown]; exact hR.mem.zs
theorem zfe {P : Program} {K : FuncId} {args : List D} {H : List (Nat × Blk)} {r : D} {eff : List (Nat × Option Blk)} {a b : Nat} (n : Nat) (h : zd1 P K args H r eff (a, b)) (hn : (Nat.ble b n && Nat.ble a b) = true := by rfl) :
  zd1 P K (D.renL (bsw a n (b - a)) args) (mvH (bsw a n (b - a)) H) (r.ren (bsw a n (b - a))) (renE (bsw a n (b - a)) eff) (n, n + (b - a)) := by
 simp only [Bool.and_eq_true] at hn
 have hn1 := lb hn.1
 have hn2 := lb hn.2
 refine zo7 (π := bsw a n (b - a)) (zvs (by omega)) _ (fun id h1 h2 => ?_) h
 have h1 : a <= id := h1
 have h2 : id < b := h2
 have e1 : (Nat.ble a id && Nat.blt id (a + (b - a))) = true := by
  simp only [Bool.and_eq_true]
  exact ⟨Nat.ble_eq_true_of_le h1, Nat.ble_eq_true_of_le (by omega)⟩
 simp only [bsw, e1, cond_true]
 omega
end Go.Tm
end
section
namespace Go.Proofs
open Go.Tm
def Tryz.tmL : List (Nat × TI) := [
 (3, ⟨6, 1, [], [.int .i64 0], 0, 0, 0, false, some .i64, false, []⟩),
 (4, ⟨8, 1, [], [.bool false], 0, 0, 0, false, none, false, []⟩),
 (5, ⟨6, 1, [], [.int .u8 0], 0, 0, 0, false, some .u8, false, []⟩),
 (9, ⟨5, 1, [], [.str []], 0, 0, 0, false, none, false, []⟩),
 (22, ⟨3, 1, [], [.imm 0 [] 0], 3, 1, 8, false, none, false, [.int .i64 0]⟩),
 (23, ⟨3, 1, [], [.imm 0 [] 0], 51, 3, 32, true, none, false, [.int .i64 0, .int .i64 0, .str []]⟩),
 (24, ⟨3, 1, [], [.imm 0 [] 0], 49, 7, 120, true, none, false, [.int .u8 0, .int .i64 0, .imm 0 [] 0, .str [], .str [], .imm 0 [] 0, .imm 0 [] 0]⟩),
 (25, ⟨3, 1, [], [.imm 0 [] 0], 43, 10, 88, true, none, false, [.int .i64 0, .int .i64 0, .int .u8 0, .int .i64 0, .int .i64 0, .int .i64 0, .int .i64 0, .str [], .int .i64 0, .int .i64 0]⟩),
 (26, ⟨3, 1, [], [.imm 0 [] 0], 45, 2, 24, true, none, false, [.int .i64 0, .str []]⟩),
 (28, ⟨2, 5, [(0, 1, false), (1, 1, false), (2, 1, false), (3, 1, false), (4, 1, false)], [.imm 0 [] 0, .imm 0 [] 0, .imm 0 [] 0, .imm 0 [] 0, .imm 0 [] 0], 0, 0, 0, false, none, false, []⟩),
 (30, ⟨2, 4, [(0, 1, false), (1, 1, false), (2, 1, false), (3, 1, false)], [.int .u8 0, .int .i64 0, .int .i64 0, .str []], 0, 0, 0, false, none, true, []⟩),
 (43, ⟨2, 10, [(0, 1, false), (1, 1, false), (2, 1, false), (3, 1, false), (4, 1, false), (5, 1, false), (6, 1, false), (7, 1, false), (8, 1, false), (9, 1, false)], [.int .i64 0, .int .i64 0, .int .u8 0, .int .i64 0, .int .i64 0, .int .i64 0, .int .i64 0, .str [], .int .i64 0, .int .i64 0], 0, 0, 0, false, none, true, []⟩),
 (45, ⟨2, 2, [(0, 1, false), (1, 1, false)], [.int .i64 0, .str []], 0, 0, 0, false, none, true, []⟩),
 (47, ⟨3, 1, [], [.imm 0 [] 0], 83, 3, 32, true, none, false, [.int .i64 0, .int .i64 0, .str []]⟩),
 (49, ⟨2, 7, [(0, 1, false), (1, 1, false), (2, 1, false), (3, 1, false), (4, 1, false), (5, 1, false), (6, 1, false)], [.int .u8 0, .int .i64 0, .imm 0 [] 0, .str [], .str [], .imm 0 [] 0, .imm 0 [] 0], 0, 0, 0, false, none, false, []⟩),
 (51, ⟨2, 3, [(0, 1, false), (1, 1, false), (2, 1, false)], [.int .i64 0, .int .i64 0, .str []], 0, 0, 0, false, none, true, []⟩),
 (55, ⟨2, 5, [(0, 5, true)], [.imm 0 [] 0, .imm 0 [] 0, .imm 0 [] 0, .imm 0 [] 0, .imm 0 [] 0], 0, 0, 0, false, none, false, []⟩),
 (83, ⟨2, 3, [(0, 1, false), (1, 1, false), (2, 1, false)], [.int .i64 0, .int .i64 0, .str []], 0, 0, 0, false, none, true, []⟩),
 (128, ⟨6, 1, [], [.int .u64 0], 0, 0, 0, false, some .u64, false, []⟩),
 (135, ⟨6, 1, [], [.int .u64 0], 0, 0, 0, false, some .u64, false, []⟩)]
def Tryz.tm (t : Nat) : TI := match getL Tryz.tmL t with | some x => x | none => default
theorem Tryz.tmAll : (Tryz.tmL.all fun x => zd7 Tryz.prog x.1 x.2 && (!x.2.eqs || zrv Tryz.prog x.1 x.2)) = true := by kernel_rfl
theorem Tryz.tmOk : zhv Tryz.prog Tryz.tm := ya03 Tryz.tmAll
theorem Tryz.tmMixed : Tryz.prog.follows .mixedOrders = true := by kernel_rfl
theorem Tryz.tm_3 : Tryz.tm 3 = ⟨6, 1, [], [.int .i64 0], 0, 0, 0, false, some .i64, false, []⟩ := by kernel_rfl
theorem Tryz.tm_4 : Tryz.tm 4 = ⟨8, 1, [], [.bool false], 0, 0, 0, false, none, false, []⟩ := by kernel_rfl
theorem Tryz.tm_5 : Tryz.tm 5 = ⟨6, 1, [], [.int .u8 0], 0, 0, 0, false, some .u8, false, []⟩ := by kernel_rfl
theorem Tryz.tm_9 : Tryz.tm 9 = ⟨5, 1, [], [.str []], 0, 0, 0, false, none, false, []⟩ := by kernel_rfl
theorem Tryz.tm_22 : Tryz.tm 22 = ⟨3, 1, [], [.imm 0 [] 0], 3, 1, 8, false, none, false, [.int .i64 0]⟩ := by kernel_rfl
theorem Tryz.tm_23 : Tryz.tm 23 = ⟨3, 1, [], [.imm 0 [] 0], 51, 3, 32, true, none, false, [.int .i64 0, .int .i64 0, .str []]⟩ := by kernel_rfl
theorem Tryz.tm_24 : Tryz.tm 24 = ⟨3, 1, [], [.imm 0 [] 0], 49, 7, 120, true, none, false, [.int .u8 0, .int .i64 0, .imm 0 [] 0, .str [], .str [], .imm 0 [] 0, .imm 0 [] 0]⟩ := by kernel_rfl
theorem Tryz.tm_25 : Tryz.tm 25 = ⟨3, 1, [], [.imm 0 [] 0], 43, 10, 88, true, none, false, [.int .i64 0, .int .i64 0, .int .u8 0, .int .i64 0, .int .i64 0, .int .i64 0, .int .i64 0, .str [], .int .i64 0, .int .i64 0]⟩ := by kernel_rfl
theorem Tryz.tm_26 : Tryz.tm 26 = ⟨3, 1, [], [.imm 0 [] 0], 45, 2, 24, true, none, false, [.int .i64 0, .str []]⟩ := by kernel_rfl
theorem Tryz.tm_28 : Tryz.tm 28 = ⟨2, 5, [(0, 1, false), (1, 1, false), (2, 1, false), (3, 1, false), (4, 1, false)], [.imm 0 [] 0, .imm 0 [] 0, .imm 0 [] 0, .imm 0 [] 0, .imm 0 [] 0], 0, 0, 0, false, none, false, []⟩ := by kernel_rfl
theorem Tryz.tm_30 : Tryz.tm 30 = ⟨2, 4, [(0, 1, false), (1, 1, false), (2, 1, false), (3, 1, false)], [.int .u8 0, .int .i64 0, .int .i64 0, .str []], 0, 0, 0, false, none, true, []⟩ := by kernel_rfl
theorem Tryz.tm_43 : Tryz.tm 43 = ⟨2, 10, [(0, 1, false), (1, 1, false), (2, 1, false), (3, 1, false), (4, 1, false), (5, 1, false), (6, 1, false), (7, 1, false), (8, 1, false), (9, 1, false)], [.int .i64 0, .int .i64 0, .int .u8 0, .int .i64 0, .int .i64 0, .int .i64 0, .int .i64 0, .str [], .int .i64 0, .int .i64 0], 0, 0, 0, false, none, true, []⟩ := by kernel_rfl
theorem Tryz.tm_45 : Tryz.tm 45 = ⟨2, 2, [(0, 1, false), (1, 1, false)], [.int .i64 0, .str []], 0, 0, 0, false, none, true, []⟩ := by kernel_rfl
theorem Tryz.tm_47 : Tryz.tm 47 = ⟨3, 1, [], [.imm 0 [] 0], 83, 3, 32, true, none, false, [.int .i64 0, .int .i64 0, .str []]⟩ := by kernel_rfl
theorem Tryz.tm_49 : Tryz.tm 49 = ⟨2, 7, [(0, 1, false), (1, 1, false), (2, 1, false), (3, 1, false), (4, 1, false), (5, 1, false), (6, 1, false)], [.int .u8 0, .int .i64 0, .imm 0 [] 0, .str [], .str [], .imm 0 [] 0, .imm 0 [] 0], 0, 0, 0, false, none, false, []⟩ := by kernel_rfl
theorem Tryz.tm_51 : Tryz.tm 51 = ⟨2, 3, [(0, 1, false), (1, 1, false), (2, 1, false)], [.int .i64 0, .int .i64 0, .str []], 0, 0, 0, false, none, true, []⟩ := by kernel_rfl
theorem Tryz.tm_55 : Tryz.tm 55 = ⟨2, 5, [(0, 5, true)], [.imm 0 [] 0, .imm 0 [] 0, .imm 0 [] 0, .imm 0 [] 0, .imm 0 [] 0], 0, 0, 0, false, none, false, []⟩ := by kernel_rfl
theorem Tryz.tm_83 : Tryz.tm 83 = ⟨2, 3, [(0, 1, false), (1, 1, false), (2, 1, false)], [.int .i64 0, .int .i64 0, .str []], 0, 0, 0, false, none, true, []⟩ := by kernel_rfl
theorem Tryz.tm_128 : Tryz.tm 128 = ⟨6, 1, [], [.int .u64 0], 0, 0, 0, false, some .u64, false, []⟩ := by kernel_rfl
theorem Tryz.tm_135 : Tryz.tm 135 = ⟨6, 1, [], [.int .u64 0], 0, 0, 0, false, some .u64, false, []⟩ := by kernel_rfl
theorem zS : Seat Tryz.prog Tryz.tm := ⟨Tryz.tmOk, Tryz.tmMixed⟩
end Go.Proofs
end
section
namespace Go.Tm
open Go.RowKit Go.WideShapes
theorem zw9 {P : Program} {K : FuncId} {fn : Func} {t r : TypeId} (hf : P.funcs[K]? = some fn) (hname : (fn.name == "runtime.NumGoroutine") = false) (hb : fn.body.isNone = true) (hn : Extern.findNext fn = none)
  (he : Extern.find fn = some (Extern.SlicesOverlaps.overlaps #[t, t] #[r])) {ti : TI} (ht : zd7 P t ti = true) (hk : ti.kind = 3) : ya00 P K := by
 intro w x y la ca lb cb cx cy Tx Ty hne hs hx hy hz
 obtain ⟨el, j, hu, hj, hj1, hj2, hj3, hj4, _, hel'⟩ := zcb ht hk
 subst hel'
 have hsz : ∀ w : World, (sizeOf ti.el).run P w = .ok j.size w := fun w => by simp [sizeOf, typeInfo, hj]
 obtain ⟨xb, xo, xs⟩ := x
 simp only at hs hx hne
 subst hs
 rw [run_callFunc_extern hf hname hb hn he, Go.Lib.run_overlaps_apart w t r ti.el hu j.size hsz ⟨xb, xo, none⟩ y la ca lb cb hne Tx Ty cx.size cy.size (by simp [World.shape?, hx]) (by simp [World.shape?, hy]) hz (by simp [World.frozen?, hx]) (by simp [World.frozen?, hx])]
 rfl
theorem zoz {P : Program} {K : FuncId} {i k s n m : Nat} {e s' : Nat} {p p' : Bool} {l l' : List D} {post : List D} {H : List (Nat × Blk)} (hE : zpb P K) (hH : getL H i = some (.arr e s p l)) (hik : i ≠ k) (hm0 : 0 < m \/ 0 < n)
  (hin : ∀ c, capK c = true -> n <= c -> m <= c -> zd1 P K (.ref i s 0 n (some c) :: post) H (.ref i s 0 m (some c)) [(i, some (.arr e s' p' l'))] (k, k))
  (hout : ∀ c, capK c = true -> n <= c -> c < m -> zd1 P K (.ref i s 0 n (some c) :: post) H (.ref k s 0 m none) [(k, some (.arr e s' p' l')), (i, none)] (k, k + 1)) :
  zd1 P K (.ref i s 0 n (some uC) :: post) H (.ref k s 0 m (some uC)) [(k, some (.arr e s' p' l')), (i, none)] (k, k + 1) := by
 refine ⟨hE, fun fr w g hp nu vs hM hHs hnw hvs => ?_⟩
 simp only [reps] at hvs
 obtain ⟨v0, vs, rfl, h0, hvs⟩ := hvs
 have h0' := h0
 simp only [rep] at h0
 obtain ⟨q1, ad, cap, rfl, q2, q3, q4, q5, q6⟩ := h0
 have hc : rep (cx w g hp) (.ref i s 0 n (some cap)) (.slice ad n cap) := by
  simp only [rep]
  exact ⟨q1, ad, cap, rfl, q2, q3, q4, ⟨fun c h _ => by cases h; rfl, fun h => by cases h⟩, q6⟩
 have hargs : reps (cx w g hp) (.ref i s 0 n (some cap) :: post) (.slice ad n cap :: vs) := by
  simp only [reps]
  exact ⟨_, _, rfl, hc, hvs⟩
 have hck : capK cap = true := Nat.ble_eq_true_of_le (by omega)
 by_cases hcase : cap < m
 refine ((hout cap hck q2 hcase).2 fr w g hp nu _ hM hHs hnw hargs).mono ?_
 rintro ee w' ⟨v, g', he, ha⟩
 exact ⟨v, g', he, ha.gz, ha.gs, ha.keep, ha.mem, ha.own, zus ha.res rfl⟩
 have hq6 := q6
 rcases q6 with q6 | ⟨b1, T1, n1, z1, _, z2, z3⟩
 omega
 refine ((hin cap hck q2 (by omega)).2 fr w g hp nu _ hM hHs (fun id h1 h2 => by have h1 : k <= id := h1; have h2 : id < k := h2; omega) hargs).mono ?_
 rintro ee w' ⟨v, g', he, ha⟩
 have hki : Nat.beq k i = false := zc4 fun e => hik e.symm
 have hnk : nu k = true := hnw k (Nat.le_refl _) (Nat.lt_succ_self _)
 have hpi : hp i = some (.arr e s p l) := hHs i _ hH
 have hni : nu i = false := by
  cases h : nu i
  rfl
  rw [(hM.nw i h).2] at hpi; cases hpi
 have hσi : g'.σ i = some (b1, 0) := (ha.gs i hni).trans z1
 let E0 : En := ⟨w', fr, fun _ => True, g', effN nu (k, k)⟩
 let F0 : FrS := ⟨fun _ => .undef, effH hp [(i, some (.arr e s' p' l'))], effN nu (k, k)⟩
 let a0 : Act := ⟨#[], []⟩
 have hR0 : Rel E0 0 F0 a0 w' g' := ⟨Nat.zero_le _, rfl, fun _ => by simp only [F0, rep], ha.mem, fun _ _ _ _ _ => .inr trivial, Keep.refl _ _, ⟨rfl, rfl⟩, fun _ _ => rfl, fun _ h => h⟩
 have hpi' : effH hp [(i, some (.arr e s' p' l'))] i = some (.arr e s' p' l') := by simp [effH, getL]
 have hnk0 : F0.nu k = true := by
  show effN nu (k, k) k = true
  simp [effN, hnk]
 obtain ⟨r1, _⟩ := Rel.made hR0 (m := k) (blk := .arr e s' p' l') (loc := some (b1, 0)) (kl := some i) (w' := w') hnk0 ((Keep.refl _ w').mono fun _ _ h => h)
  (by rintro b o h; cases h; exact .inr ⟨i, 0, rfl, by show effH hp [(i, some (.arr e s' p' l'))] i ≠ none; rw [hpi']; simp, hσi⟩)
  (by
   intro C hC hle hrf hσ
   rcases ha.mem.hd i _ hpi' with ⟨_, h⟩ | ⟨b', cs, h1, h2, h3, h4⟩
   have h : g'.σ i = none := h
   rw [hσi] at h; cases h
   have h1 : g'.σ i = some (b', 0) := h1
   rw [hσi] at h1
   simp only [Option.some.injEq, Prod.mk.injEq] at h1
   obtain ⟨rfl, _⟩ := h1
   exact .inr ⟨b1, cs, hσ, by subst hC; exact h2, h3, zfp (C := { cx w' g' (effH hp [(i, some (.arr e s' p' l'))]) with rf := !p' }) (C' := { C with rf := !p' }) (zon hle rfl _ _ id) _ _ _ _ (by subst hC; rfl) h4⟩)
 have hhp : effH (effH hp [(i, some (.arr e s' p' l'))]) ((k, some (.arr e s' p' l')) :: kill (some i)) = effH hp [(k, some (.arr e s' p' l')), (i, none)] := by
  funext x
  simp only [effH, kill, getL]
  cases h1 : Nat.beq k x
  cases h2 : Nat.beq i x <;> simp
  simp
 have hnn : effN (effN nu (k, k)) (k, k + 1) = effN nu (k, k + 1) := by
  funext x
  simp only [effN]
  have : (decide (k <= x) && decide (x < k)) = false := by
   cases hx : decide (k <= x) <;> simp at hx ⊢
   omega
  rw [this]; simp
 have hmem := r1.mem
 simp only [FrS.eff, F0] at hmem
 rw [hhp, hnn] at hmem
 have hpk : effH hp [(k, some (.arr e s' p' l')), (i, none)] i = none := by simp [effH, getL, hki]
 refine ⟨v, setσ g' k (some (b1, 0)), he, ha.gz, fun id hid => ?_, ha.keep, hmem, ?_, ?_⟩
 have : id ≠ k := by rintro rfl; rw [hnk] at hid; cases hid
 show (if id = k then _ else g'.σ id) = g.σ id
 rw [if_neg this]
 exact ha.gs id hid
 rintro b0 ⟨id, o, h1, h2⟩
 have h2 : (if id = k then some (b1, 0) else g'.σ id) = some (b0, o) := h2
 by_cases hidk : id = k
 rw [if_pos hidk] at h2
 simp only [Option.some.injEq, Prod.mk.injEq] at h2
 obtain ⟨rfl, rfl⟩ := h2
 exact ha.own b1 ⟨i, 0, by rw [hpi']; simp, hσi⟩
 rw [if_neg hidk] at h2
 by_cases hidi : id = i
 subst hidi
 rw [hpk] at h1
 exact absurd rfl h1
 refine ha.own b0 ⟨id, o, ?_, h2⟩
 have a1 : Nat.beq k id = false := zc4 fun e => hidk e.symm
 have a2 : Nat.beq i id = false := zc4 fun e => hidi e.symm
 simp only [effH, getL, a1, a2] at h1 ⊢
 exact h1
 have hres := ha.res
 simp only [rep] at hres ⊢
 obtain ⟨_, ad', cap', hv, k1, k2, k3, k4, k5⟩ := hres
 have hcc := k4.1 cap rfl (Nat.ble_eq_true_of_le (by omega))
 subst hcc
 have hsh : w'.shape? b1 = some (T1, n1) := by
  have := ha.keep.shp b1 (zkz (w := w) z2)
  rw [this]; exact z2
 refine ⟨by simp [cx], ad', cap', hv, k1, k2, k3, ⟨(fun c h hk => by cases h; cases hk), (fun h => by cases h)⟩, ?_⟩
 rcases k5 with k5 | ⟨b, T, nn, y1, y2, y3, y4⟩
 exact .inl k5
 have y1 : g'.σ i = some (b, 0) := y1
 rw [hσi] at y1
 simp only [Option.some.injEq, Prod.mk.injEq] at y1
 obtain ⟨rfl, _⟩ := y1
 exact .inr ⟨b1, T, nn, by simp [cx, setσ], y2, y3, y4⟩
end Go.Tm
end

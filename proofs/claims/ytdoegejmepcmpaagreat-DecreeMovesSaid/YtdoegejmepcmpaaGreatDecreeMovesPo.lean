/- Texts of the proof. -/
import Derived.Test.YtdoegejmepcmpaaGreatDecreeMovesPn
import Derived.Test.YtdoegejmepcmpaaGreatDecreeMovesPg
import Derived.Test.YtdoegejmepcmpaaGreatDecreeMovesPf
section
namespace Go.Tm
open Go.RowKit Go.WideShapes
def crel (v v' : Value) : Prop := v' = v \/ (scal v = true /\ scal v' = true)
theorem crel.refl (v : Value) : crel v v := .inl rfl
theorem crel.trans {a b c : Value} (h : crel a b) (k : crel b c) : crel a c := by
 rcases h with rfl | ⟨h1, h2⟩
 exact k
 rcases k with rfl | ⟨k1, k2⟩
 exact .inr ⟨h1, h2⟩
 exact .inr ⟨h1, k2⟩
theorem crel.eq {v v' : Value} (h : crel v v') (hs : scal v = false) : v' = v := by
 rcases h with h | ⟨h, _⟩
 exact h
 rw [hs] at h; cases h
theorem crel.sc {v v' : Value} (h : crel v v') (hs : scal v = true) : scal v' = true := by
 rcases h with rfl | ⟨_, h⟩
 exact hs
 exact h
def zmn : List Value -> List Value -> Prop
 | [], l' => l' = []
 | v :: l, l' => ∃ v' t, l' = v' :: t /\ crel v v' /\ zmn l t
theorem zmn.refl : ∀ l, zmn l l
 | [] => rfl
 | v :: l => ⟨v, l, rfl, .refl v, zmn.refl l⟩
theorem zmn.trans : ∀ {a b c : List Value}, zmn a b -> zmn b c -> zmn a c
 | [], b, c, h, k => by
  have h : b = [] := h
  subst h; exact k
 | x :: a, b, c, h, k => by
  obtain ⟨y, b', rfl, h1, h2⟩ := h
  obtain ⟨z, c', rfl, k1, k2⟩ := k
  exact ⟨z, c', rfl, h1.trans k1, h2.trans k2⟩
theorem zmn.len : ∀ {a b : List Value}, zmn a b -> b.length = a.length
 | [], b, h => by
  have h : b = [] := h
  subst h; rfl
 | x :: a, b, h => by
  obtain ⟨y, b', rfl, _, h2⟩ := h
  simp [h2.len]
theorem zmn.of_at : ∀ {a b : List Value}, b.length = a.length -> (∀ (j : Nat) (v v' : Value), a[j]? = some v -> b[j]? = some v' -> crel v v') -> zmn a b
 | [], b, h, _ => List.eq_nil_of_length_eq_zero h
 | x :: a, [], h, _ => by simp at h
 | x :: a, y :: b, h, k => ⟨y, b, rfl, k 0 x y rfl rfl, zmn.of_at (by simpa using h) fun j v v' e1 e2 => k (j + 1) v v' (by simpa using e1) (by simpa using e2)⟩
structure Sp (N O : Nat -> Prop) (w w' : World) : Prop where
 os : w'.os = w.os
 tape : w'.tape = w.tape
 output : w'.output = w.output
 size : w.heap.size <= w'.heap.size
 shp : ∀ k, k < w.heap.size -> w'.shape? k = w.shape? k
 low : ∀ k, k < w.heap.size -> ¬ N k -> ¬ O k -> w'.heap[k]? = w.heap[k]?
 rng : ∀ b o l, ¬ O b -> w.rangeAt b o l -> l.all (·.oneCell') = true -> ∃ l', zmn l l' /\ l'.all (·.oneCell') = true /\ w'.rangeAt b o l'
 unf : ∀ b, ¬ O b -> Unfz w b -> Unfz w' b
theorem Sp.trans {N O O' : Nat -> Prop} {a b c : World} (h : Sp N O a b) (k : Sp N O' b c) (ho : ∀ i, i < a.heap.size -> ¬ O i -> ¬ O' i) : Sp N O a c := by
 refine ⟨k.os.trans h.os, k.tape.trans h.tape, k.output.trans h.output, Nat.le_trans h.size k.size, fun i hi => (k.shp i (Nat.lt_of_lt_of_le hi h.size)).trans (h.shp i hi), fun i hi hf hn => (k.low i (Nat.lt_of_lt_of_le hi h.size) hf (ho i hi hn)).trans (h.low i hi hf hn), fun i o l hn hr h1 => ?_, fun i hn hu => ?_⟩
 obtain ⟨l1, e1, e2, e3⟩ := h.rng i o l hn hr h1
 cases l with
 | nil => exact ⟨[], rfl, rfl, fun j v hj => by cases hj⟩
 | cons x l =>
  have hi := zsh hr (by simp)
  obtain ⟨l2, f1, f2, f3⟩ := k.rng i o l1 (ho i hi hn) e3 e2
  exact ⟨l2, e1.trans f1, f2, f3⟩
 have hi : i < a.heap.size := by
  obtain ⟨cs, T, e⟩ := hu
  exact (Array.getElem?_eq_some_iff.1 e).1
 exact k.unf i (ho i hi hn) (h.unf i hn hu)
theorem Sp.of_keep {N O : Nat -> Prop} {w w' : World} (h : Keep O w w') : Sp N O w w' := by
 refine ⟨h.os, h.tape, h.output, h.size, h.shp, fun k h1 _ h2 => h.block k h1 h2, fun b o l hn hr h1 => ?_, fun b hn hu => ?_⟩
 cases l with
 | nil => exact ⟨[], rfl, rfl, fun j v hj => by cases hj⟩
 | cons x l => exact ⟨x :: l, .refl _, h1, zh2 hr (h.block b (zsh hr (by simp)) hn)⟩
 obtain ⟨cs, T, e⟩ := hu
 exact ⟨cs, T, (h.block b (Array.getElem?_eq_some_iff.1 e).1 hn).trans e⟩
mutual
def Lm : D -> Prop
 | .agg l => LmL l
 | .imm _ l c => c / 8 = 2 \/ LmL l
 | .sc | .undef | .nilptr | .nilfn | .nilIface | .nilmap => True
 | _ => False
def LmL : List D -> Prop
 | [] => True
 | d :: ds => Lm d /\ LmL ds
end
mutual
def Lz : D -> Prop
 | .imm _ l c => c / 8 = 2 \/ LmL l
 | .iptr m l => m = 2 \/ ∀ d ∈ l, d = .undef
 | .agg l => LzL l
 | .tuple l => LzL l
 | .iface _ d => Lz d
 | .fn _ l => LzL l
 | .when _ d => Lz d
 | _ => True
def LzL : List D -> Prop
 | [] => True
 | d :: ds => Lz d /\ LzL ds
end
def LzB : Blk -> Prop
 | .box l => LzL l
 | .arr _ _ _ l => LzL l
 | .map _ => False
theorem LmL.maps {α : Type} (f : α -> D) (hf : ∀ x, Lm (f x)) : ∀ l : List α, LmL (l.map f)
 | [] => trivial
 | x :: l => ⟨hf x, LmL.maps f hf l⟩
theorem zs0 {N O : Nat -> Prop} {C C' : Cx} (hs : Sp N O C.w C'.w) : ∀ (l : List D) (b o : Nat), ¬ O b -> (∀ d ∈ l, d = .undef) -> cels C l b o -> cels C' l b o
 | [], _, _, _, _, _ => by simp only [cels]
 | d :: ds, b, o, hO, hl, h => by
  simp only [cels] at h ⊢
  obtain ⟨⟨v, _, h4⟩, h5⟩ := h
  refine ⟨?_, zs0 hs ds b (o + 1) hO (fun x hx => hl x (List.mem_cons_of_mem _ hx)) h5⟩
  rw [hl d (List.mem_cons_self ..)]
  have : ∃ v', C'.w.cell? ⟨b, o, none⟩ = some v' := by
   unfold World.cell? at h4
   cases hb : C.w.heap[b]? with
   | none => rw [hb] at h4; simp at h4
   | some x =>
    rw [hb] at h4
    cases x with
    | cells cs T r =>
     have hlt : b < C.w.heap.size := (Array.getElem?_eq_some_iff.1 hb).1
     have ho : o < cs.size := by
      simp at h4
      exact (Array.getElem?_eq_some_iff.1 h4).1
     have hsh := hs.shp b hlt
     have e : C.w.shape? b = some (T, cs.size) := by simp [World.shape?, hb]
     rw [e] at hsh
     unfold World.shape? at hsh
     split at hsh
     rename_i cs' T' r' hb'
     simp only [Option.some.injEq, Prod.mk.injEq] at hsh
     unfold World.cell?
     rw [hb']
     exact ⟨cs'[o], by simp⟩
     cases hsh
    | _ => simp at h4
  obtain ⟨v', hv'⟩ := this
  exact ⟨v', by simp only [rep], hv'⟩
structure LzC (N O : Nat -> Prop) (C C' : Cx) : Prop where
 sp : Sp N O C.w C'.w
 σ : C'.σ = C.σ
 Z : C'.Z = C.Z
 zn : C'.zn = C.zn
 fl : C.fl = true -> C'.fl = true
 rf : C.rf = true -> C'.rf = true
 M : ∀ b, b < C.w.heap.size -> ¬ C.M b -> ¬ C'.M b /\ ¬ O b
 z2 : ∀ Z2, C.zone 2 = some Z2 -> ∀ b, Z2 b -> ¬ N b
theorem LzC.zone {N O C C'} (h : LzC N O C C') (m : Nat) : C'.zone m = C.zone m := by unfold Cx.zone; rw [h.Z, h.zn]
theorem LzC.inner {N O C C'} (h : LzC N O C C') {Z : Nat -> Prop} (hz : C.zone 2 = some Z) : (C.at Z).Le (C'.at Z) :=
 Cx.Le.inner' (C := C) (C' := C') (fun b hb => h.sp.shp b hb) fun b k1 k2 k3 => ⟨(h.M b k3 k1).1, k2, .of_eq (h.sp.low b k3 (h.z2 Z hz b k2) (h.M b k3 k1).2) k3⟩
theorem LzC.at {N O C C'} (h : LzC N O C C') (Z : Nat -> Prop) : LzC N O (C.at Z) (C'.at Z) := ⟨h.sp, h.σ, rfl, h.zn, (fun e => by cases e), (fun e => by cases e), h.M, h.z2⟩
mutual
theorem ya1b {N O : Nat -> Prop} : ∀ (d : D) {C C' : Cx} (_ : LzC N O C C') (v v' : Value), Lm d -> rep C d v -> crel v v' -> rep C' d v'
 | .agg l, C, C', h, v, v', hl, hr, hc => by
  simp only [rep] at hr ⊢
  obtain ⟨cs, rfl, hr⟩ := hr
  have := hc.eq rfl
  subst this
  exact ⟨cs, rfl, zur l h cs cs hl hr (.refl cs)⟩
 | .imm s l c, C, C', h, v, v', hl, hr, hc => by
  simp only [rep, h.zone] at hr ⊢
  obtain ⟨a, cap, rfl, h1, h2, h3, h4, h5, h6, hfl, h7⟩ := hr
  have := hc.eq rfl
  subst this
  refine ⟨a, cap, rfl, h1, h2, h3, h4, h5, h6, fun x => h.fl (hfl x), ?_⟩
  rcases h7 with h7 | h7
  exact .inl h7
  right
  intro Z hZ
  obtain ⟨a0, ha, hs, hM, hlo, hb, he⟩ := h7 Z hZ
  obtain ⟨m1, m2⟩ := h.M _ hb.1 hM
  have hb' : inW C'.w (c % 8) a0.block := ⟨Nat.lt_of_lt_of_le hb.1 h.sp.size, fun e => h.sp.unf _ m2 (hb.2 e)⟩
  refine ⟨a0, ha, hs, m1, hlo, hb', ?_⟩
  rcases hl with hc | hu
  rw [hc] at hZ
  exact zo1 (h.inner hZ) l _ _ _ (.of_eq (h.sp.low _ hb.1 (h.z2 Z hZ _ hlo) m2) hb.1) he
  exact zsz l (h.at Z) _ _ _ m2 hu he
 | .sc, C, C', h, v, v', hl, hr, hc => by
  simp only [rep] at hr ⊢
  exact hc.sc hr
 | .undef, C, C', h, v, v', hl, hr, hc => by simp only [rep]
 | .nilptr, C, C', h, v, v', hl, hr, hc => by
  simp only [rep] at hr ⊢
  subst hr; exact hc.eq rfl
 | .nilfn, C, C', h, v, v', hl, hr, hc => by
  simp only [rep] at hr ⊢
  subst hr; exact hc.eq rfl
 | .nilIface, C, C', h, v, v', hl, hr, hc => by
  simp only [rep] at hr ⊢
  subst hr; exact hc.eq rfl
 | .nilmap, C, C', h, v, v', hl, hr, hc => by
  simp only [rep] at hr ⊢
  subst hr; exact hc.eq rfl
 | .bool _, C, C', h, v, v', hl, hr, hc | .int _ _, C, C', h, v, v', hl, hr, hc | .str _, C, C', h, v, v', hl, hr, hc | .ref _ _ _ _ _, C, C', h, v, v', hl, hr, hc | .ptr _ _, C, C', h, v, v', hl, hr, hc | .eptr _ _ _ _, C, C', h, v, v', hl, hr, hc | .iptr _ _, C, C', h, v, v', hl, hr, hc | .tuple _, C, C', h, v, v', hl, hr, hc | .fn _ _, C, C', h, v, v', hl, hr, hc | .iface _ _, C, C', h, v, v', hl, hr, hc | .mref _, C, C', h, v, v', hl, hr, hc | .when _ _, C, C', h, v, v', hl, hr, hc => by simp only [Lm] at hl
theorem ya1w {N O : Nat -> Prop} : ∀ (d : D) {C C' : Cx} (_ : LzC N O C C') (cs l' : List Value), Lm d -> rep C d (.agg cs.toArray) -> zmn cs l' -> rep C' d (.agg l'.toArray)
 | .agg l, C, C', h, cs, l', hl, hr, hc => by
  simp only [rep] at hr ⊢
  obtain ⟨cs', e, hr⟩ := hr
  have e : cs = cs' := by simpa using e
  subst e
  exact ⟨l', rfl, zur l h cs l' hl hr hc⟩
 | .imm s l c, C, C', h, cs, l', hl, hr, hc => by
  simp only [rep] at hr
  obtain ⟨a, cap, e, _⟩ := hr
  cases e
 | .sc, C, C', h, cs, l', hl, hr, hc => by
  simp only [rep] at hr
  cases hr
 | .undef, C, C', h, cs, l', hl, hr, hc => by simp only [rep]
 | .nilptr, C, C', h, cs, l', hl, hr, hc => by
  simp only [rep] at hr
  cases hr
 | .nilfn, C, C', h, cs, l', hl, hr, hc => by
  simp only [rep] at hr
  cases hr
 | .nilIface, C, C', h, cs, l', hl, hr, hc => by
  simp only [rep] at hr
  cases hr
 | .nilmap, C, C', h, cs, l', hl, hr, hc => by
  simp only [rep] at hr
  cases hr
 | .bool _, C, C', h, cs, l', hl, hr, hc | .int _ _, C, C', h, cs, l', hl, hr, hc | .str _, C, C', h, cs, l', hl, hr, hc | .ref _ _ _ _ _, C, C', h, cs, l', hl, hr, hc | .ptr _ _, C, C', h, cs, l', hl, hr, hc | .eptr _ _ _ _, C, C', h, cs, l', hl, hr, hc | .iptr _ _, C, C', h, cs, l', hl, hr, hc | .tuple _, C, C', h, cs, l', hl, hr, hc | .fn _ _, C, C', h, cs, l', hl, hr, hc | .iface _ _, C, C', h, cs, l', hl, hr, hc | .mref _, C, C', h, cs, l', hl, hr, hc | .when _ _, C, C', h, cs, l', hl, hr, hc => by simp only [Lm] at hl
theorem zur {N O : Nat -> Prop} : ∀ (l : List D) {C C' : Cx} (_ : LzC N O C C') (vs vs' : List Value), LmL l -> reps C l vs -> zmn vs vs' -> reps C' l vs'
 | [], C, C', h, vs, vs', hl, hr, hc => by
  simp only [reps] at hr ⊢
  subst hr; exact hc
 | d :: ds, C, C', h, vs, vs', hl, hr, hc => by
  simp only [reps] at hr ⊢
  obtain ⟨v, t, rfl, h1, h2⟩ := hr
  obtain ⟨v', t', rfl, k1, k2⟩ := hc
  exact ⟨v', t', rfl, ya1b d h v v' hl.1 h1 k1, zur ds h t t' hl.2 h2 k2⟩
theorem zsz {N O : Nat -> Prop} : ∀ (l : List D) {C C' : Cx} (_ : LzC N O C C') (b o s : Nat), ¬ O b -> LmL l -> elems C l b o s -> elems C' l b o s
 | [], C, C', _, _, _, _, _, _, _ => by simp only [elems]
 | d :: ds, C, C', hs, b, o, s, hO, hl, h => by
  simp only [elems] at h ⊢
  obtain ⟨⟨v, h1, h2, h3, h4⟩, h5⟩ := h
  obtain ⟨l', e1, e2, e3⟩ := hs.sp.rng b o _ hO h4 h3
  refine ⟨?_, zsz ds hs b (o + s) s hO hl.2 h5⟩
  have hlen := e1.len
  by_cases hv : ∃ cs, v = .agg cs
  obtain ⟨cs, rfl⟩ := hv
  exact ⟨.agg l'.toArray, ya1w d hs cs.toList l' hl.1 h1 e1, by simpa [Value.cells, <- h2] using hlen, by simpa [Value.cells] using e2, by simpa [Value.cells] using e3⟩
  have hc : v.cells = #[v] := by
   cases v with
   | agg cs => exact absurd ⟨cs, rfl⟩ hv
   | _ => rfl
  rw [hc] at e1 h2
  obtain ⟨v', t, rfl, k1, k2⟩ := e1
  have k2 : t = [] := k2
  subst k2
  have hc' : v'.cells = #[v'] := by
   rcases k1 with rfl | ⟨_, k1⟩
   exact hc
   cases v' with
   | agg cs => cases k1
   | _ => rfl
  exact ⟨v', ya1b d hs v v' hl.1 h1 k1, by rw [hc']; exact h2, by rw [hc']; exact e2, by rw [hc']; exact e3⟩
end
mutual
theorem zrp {N O : Nat -> Prop} {C C' : Cx} (h : LzC N O C C') : ∀ (d : D) (v : Value), Lz d -> rep C d v -> rep C' d v
 | .bool b, v, _, hr => by simpa only [rep] using hr
 | .int k n, v, _, hr => by simpa only [rep] using hr
 | .str l, v, _, hr => by simpa only [rep] using hr
 | .agg l, v, hl, hr => by
  simp only [rep] at hr ⊢
  obtain ⟨cs, rfl, hc⟩ := hr
  exact ⟨cs, rfl, zog h l cs hl hc⟩
 | .imm s l c, v, hl, hr => by
  simp only [rep, h.zone] at hr ⊢
  obtain ⟨a, cap, rfl, h1, h2, h3, h4, h5, h6, hfl, h7⟩ := hr
  refine ⟨a, cap, rfl, h1, h2, h3, h4, h5, h6, fun x => h.fl (hfl x), ?_⟩
  rcases h7 with h7 | h7
  exact .inl h7
  right
  intro Z hZ
  obtain ⟨a0, ha, hs, hM, hlo, hb, he⟩ := h7 Z hZ
  obtain ⟨m1, m2⟩ := h.M _ hb.1 hM
  have hb' : inW C'.w (c % 8) a0.block := ⟨Nat.lt_of_lt_of_le hb.1 h.sp.size, fun e => h.sp.unf _ m2 (hb.2 e)⟩
  refine ⟨a0, ha, hs, m1, hlo, hb', ?_⟩
  rcases hl with hc | hu
  rw [hc] at hZ
  exact zo1 (h.inner hZ) l _ _ _ (.of_eq (h.sp.low _ hb.1 (h.z2 Z hZ _ hlo) m2) hb.1) he
  exact zsz l (h.at Z) _ _ _ m2 hu he
 | .ref id s off len oc, v, _, hr => by
  simp only [rep, h.σ] at hr ⊢
  obtain ⟨h0, a, cap, rfl, h1, h2, h3, hoc, h4⟩ := hr
  refine ⟨h.rf h0, a, cap, rfl, h1, h2, h3, ⟨hoc.1, fun ho => by
   obtain ⟨b, T, n, hσ, hsh, hn⟩ := hoc.2 ho
   exact ⟨b, T, n, hσ, by rw [h.sp.shp _ (zkz hsh), hsh], hn⟩⟩, ?_⟩
  rcases h4 with h4 | ⟨b, T, n, hσ, ha, hsh, hn⟩
  exact .inl h4
  exact .inr ⟨b, T, n, hσ, ha, by rw [h.sp.shp _ (zkz hsh), hsh], hn⟩
 | .ptr id off, v, _, hr => by
  simp only [rep, h.σ] at hr ⊢
  obtain ⟨h0, b, o, hσ, rfl⟩ := hr
  exact ⟨h.rf h0, b, o, hσ, rfl⟩
 | .eptr id s i off, v, _, hr => by
  simp only [rep, h.σ] at hr ⊢
  obtain ⟨h0, hs0, b, o, hσ, rfl⟩ := hr
  exact ⟨h.rf h0, hs0, b, o, hσ, rfl⟩
 | .iptr m l, v, hl, hr => by
  simp only [rep, h.zone] at hr ⊢
  obtain ⟨a0, rfl, hs, hfl, hr⟩ := hr
  refine ⟨a0, rfl, hs, fun x => h.fl (hfl x), ?_⟩
  rcases hr with hr | hr
  exact .inl hr
  right
  intro Z hZ
  obtain ⟨hM, hlo, hb, he⟩ := hr Z hZ
  obtain ⟨m1, m2⟩ := h.M _ hb hM
  refine ⟨m1, hlo, Nat.lt_of_lt_of_le hb h.sp.size, ?_⟩
  rcases hl with hc | hu
  rw [hc] at hZ
  exact zt1 (h.inner hZ) l _ _ (.of_eq (h.sp.low _ hb (h.z2 Z hZ _ hlo) m2) hb) he
  exact zs0 (C := C.at Z) (C' := C'.at Z) h.sp l _ _ m2 hu he
 | .nilptr, v, _, hr => by simpa only [rep] using hr
 | .tuple l, v, hl, hr => by
  simp only [rep] at hr ⊢
  obtain ⟨cs, rfl, hc⟩ := hr
  exact ⟨cs, rfl, zog h l cs hl hc⟩
 | .fn f l, v, hl, hr => by
  simp only [rep] at hr ⊢
  obtain ⟨cs, rfl, hc⟩ := hr
  exact ⟨cs, rfl, zog h l cs hl hc⟩
 | .nilfn, v, _, hr => by simpa only [rep] using hr
 | .iface t d, v, hl, hr => by
  simp only [rep] at hr ⊢
  obtain ⟨x, rfl, hx⟩ := hr
  exact ⟨x, rfl, zrp h d x hl hx⟩
 | .nilIface, v, _, hr => by simpa only [rep] using hr
 | .mref id, v, _, hr => by
  simp only [rep, h.σ] at hr ⊢
  obtain ⟨h0, b, o, hσ, rfl⟩ := hr
  exact ⟨h.rf h0, b, o, hσ, rfl⟩
 | .nilmap, v, _, hr => by simpa only [rep] using hr
 | .sc, v, _, hr => by simpa only [rep] using hr
 | .when c d, v, hl, hr => by
  simp only [rep] at hr ⊢
  exact ⟨fun hc => zrp h d v hl (hr.1 hc), hr.2⟩
 | .undef, v, _, _ => by simp only [rep]
theorem zog {N O : Nat -> Prop} {C C' : Cx} (h : LzC N O C C') : ∀ (l : List D) (vs : List Value), LzL l -> reps C l vs -> reps C' l vs
 | [], vs, _, hr => by simpa only [reps] using hr
 | d :: ds, vs, hl, hr => by
  simp only [reps] at hr ⊢
  obtain ⟨v, vs', rfl, h1, h2⟩ := hr
  exact ⟨v, vs', rfl, zrp h d v hl.1 h1, zog h ds vs' hl.2 h2⟩
end
theorem zsy {N O : Nat -> Prop} {C C' : Cx} (h : LzC N O C C') : ∀ (l : List D) (b o s : Nat), C'.w.heap[b]? = C.w.heap[b]? -> LzL l -> elems C l b o s -> elems C' l b o s
 | [], _, _, _, _, _, _ => by simp only [elems]
 | d :: ds, b, o, s, hb, hl, hr => by
  simp only [elems] at hr ⊢
  obtain ⟨⟨v, h1, h2, h3, h4⟩, h5⟩ := hr
  exact ⟨⟨v, zrp h d v hl.1 h1, h2, h3, zh2 h4 hb⟩, zsy h ds b (o + s) s hb hl.2 h5⟩
theorem zya {N O : Nat -> Prop} {w : World} {b off : Nat} {cs : Array Value} {T : TypeId} {x : Value} (hg : w.heap[b]? = some (.cells cs T (0, 0))) (hf : N b) (hx : x.oneCell' = true) (hsx : scal x = true) (ho : off < cs.size) (hsc : scal cs[off] = true) (new : Array Value) (hn : new = (cs.toList.take off ++ [x] ++ cs.toList.drop (off + 1)).toArray) :
  Sp N O w (w.setRow b new) := by
 have hsz : new.size = cs.size := by subst hn; simp; omega
 have hK := zgi w b cs new T (0, 0) hg hsz
 have hh := setRow_heap w b cs new T (0, 0) hg
 have hat : ∀ (j : Nat) (v : Value), new[j]? = some v -> (v = x /\ j = off) \/ cs[j]? = some v := by
  intro j v hv
  subst hn
  rw [List.getElem?_toArray] at hv
  rcases Nat.lt_trichotomy j off with h | h | h
  right
  rw [List.append_assoc, List.getElem?_append_left (by simp; omega), List.getElem?_take_of_lt h] at hv
  simpa using hv
  left
  subst h
  rw [List.append_assoc, List.getElem?_append_right (by simp; omega)] at hv
  have e : j - (List.take j cs.toList).length = 0 := by simp; omega
  rw [e] at hv
  exact ⟨by simpa using hv.symm, rfl⟩
  right
  have hl : (List.take off cs.toList ++ [x]).length = off + 1 := by simp; omega
  rw [List.getElem?_append_right (by omega), List.getElem?_drop, hl, show off + 1 + (j - (off + 1)) = j by omega] at hv
  simpa using hv
 refine ⟨hK.os, hK.tape, hK.output, hK.size, hK.shp, fun k h1 h2 _ => hK.block k h1 (fun e => h2 (e ▸ hf)), fun b' o l _ hr h1 => ?_, fun b' _ hu => ?_⟩
 by_cases hb : b' = b
 subst hb
 rw [zdg hg] at hr
 have hlt : ∀ j, j < l.length -> o + j < new.size := by
  intro j hj
  have := hr j l[j] (List.getElem?_eq_getElem hj)
  have := (Array.getElem?_eq_some_iff.1 this).1
  omega
 refine ⟨(List.range l.length).map fun j => (new[o + j]?).getD undef, .of_at (by simp) fun j v v' e1 e2 => ?_, ?_, ?_⟩
 have hj : j < l.length := (List.getElem?_eq_some_iff.1 e1).1
 have hlj := hlt j hj
 rw [List.getElem?_map, List.getElem?_range hj] at e2
 have e2 : (new[o + j]?).getD undef = v' := by simpa using e2
 rw [Array.getElem?_eq_getElem hlj] at e2
 have e2 : new[o + j] = v' := e2
 have hcj := hr j v e1
 rcases hat (o + j) _ (Array.getElem?_eq_getElem hlj) with ⟨e, ej⟩ | e
 right
 have : cs[off] = v := by
  rw [ej, Array.getElem?_eq_getElem ho] at hcj
  exact sj hcj
 rw [<- this, <- e2, e]
 exact ⟨hsc, hsx⟩
 left
 rw [<- e2]
 exact sj (e.symm.trans hcj)
 refine List.all_eq_true.2 fun v hv => ?_
 obtain ⟨j, hj, rfl⟩ := List.mem_map.1 hv
 have hj : j < l.length := by simpa using hj
 have hlj := hlt j hj
 rw [Array.getElem?_eq_getElem hlj]
 simp only [Option.getD_some]
 rcases hat (o + j) _ (Array.getElem?_eq_getElem hlj) with e | e
 rw [e.1]; exact hx
 have := hr j l[j] (List.getElem?_eq_getElem hj)
 rw [show new[o + j] = l[j] from sj (e.symm.trans this)]
 exact List.all_eq_true.1 h1 _ (List.getElem_mem hj)
 rw [zdg hh]
 intro j v hv
 have hj : j < l.length := by
  have := (List.getElem?_eq_some_iff.1 hv).1
  simpa using this
 have hlj := hlt j hj
 have e : v = (new[o + j]?).getD undef := by
  rw [List.getElem?_map, List.getElem?_range hj] at hv
  simpa using hv.symm
 rw [e, Array.getElem?_eq_getElem hlj]; rfl
 cases l with
 | nil => exact ⟨[], rfl, rfl, fun j v hj => by cases hj⟩
 | cons y l => exact ⟨y :: l, .refl _, h1, zh2 hr (hK.block b' (zsh hr (by simp)) hb)⟩
 by_cases hb : b' = b
 subst hb; exact ⟨new, T, hh⟩
 obtain ⟨cs', T', e⟩ := hu
 exact ⟨cs', T', (hK.block b' (Array.getElem?_eq_some_iff.1 e).1 hb).trans e⟩
def z1 (g : Gh) (b : Nat) : Prop := ∃ Z, g.zn 1 = some Z /\ Z b
def En.at (w : World) (fr : Nat) (g : Gh) (F : FrS) : En := ⟨w, fr, ownB g F.hp, g, F.nu⟩
theorem Rel.at {n : Nat} {fr : Nat} {F : FrS} {a : Act} {w : World} {g : Gh} (h1 : n <= a.tmps.size) (h2 : a.defers = []) (h3 : ∀ t, rep (cx w g F.hp) (F.rd t) (a.eval (.tmp t))) (h4 : Mem fr w g F.hp F.nu) : Rel (En.at w fr g F) n F a w g :=
 ⟨h1, h2, h3, h4, fun id _ o e1 e2 => .inr ⟨id, o, e1, e2⟩, Keep.refl _ _, ⟨rfl, rfl⟩, fun _ _ => rfl, fun _ h => h⟩
structure Lf (F : FrS) (w : World) (g : Gh) (F' : FrS) (w' : World) (g' : Gh) : Prop where
 sp : Sp (z1 g) (ownB g F.hp) w w'
 own : ∀ b, ownB g' F'.hp b -> w.heap.size <= b \/ ownB g F.hp b
 gz : g'.Z = g.Z /\ g'.zn = g.zn
 gs : ∀ id, F.nu id = false -> g'.σ id = g.σ id
 nu : ∀ id, F'.nu id = true -> F.nu id = true
theorem Lf.trans {F F1 F2 : FrS} {w w1 w2 : World} {g g1 g2 : Gh} (h : Lf F w g F1 w1 g1) (k : Lf F1 w1 g1 F2 w2 g2) : Lf F w g F2 w2 g2 := by
 have hz : z1 g1 = z1 g := by unfold z1; rw [h.gz.2]
 refine ⟨h.sp.trans (hz ▸ k.sp) fun i hi hn ho => ?_, fun b hb => ?_, ⟨k.gz.1.trans h.gz.1, k.gz.2.trans h.gz.2⟩, fun id hid => ?_, fun id hid => h.nu id (k.nu id hid)⟩
 rcases h.own i ho with h1 | h1
 omega
 exact hn h1
 rcases k.own b hb with h1 | h1
 exact .inl (Nat.le_trans h.sp.size h1)
 exact h.own b h1
 have : F1.nu id = false := by
  cases hq : F1.nu id
  rfl
  rw [h.nu id hq] at hid; cases hid
 rw [k.gs id this, h.gs id hid]
theorem Lf.of {n : Nat} {fr : Nat} {F F' : FrS} {a' : Act} {w w' : World} {g g' : Gh} (h : Rel (En.at w fr g F) n F' a' w' g') : Rel (En.at w' fr g' F') n F' a' w' g' /\ Lf F w g F' w' g' :=
 ⟨.at h.sz h.df h.rd h.mem, .of_keep h.keep, fun b ⟨id, o, e1, e2⟩ => h.base id b o e1 e2, h.gz, h.gs, h.nu⟩
def OkQ (P : Program) (lim n : Nat) (c : Code) (st : St) (Q : Exit -> St -> Prop) : Prop :=
 ∀ (fr : Nat) (F : FrS) (a : Act) (w : World) (g : Gh), F.on lim st -> Rel (En.at w fr g F) n F a w g -> c.wp P (fun e a' w' => ∃ st' F' g', Q e st' /\ F'.on lim st' /\ Rel (En.at w' fr g' F') n F' a' w' g' /\ Lf F w g F' w' g') a w
section
variable {P : Program} {lim n : Nat} {st : St} {Q : Exit -> St -> Prop}
theorem OkQ.of {c : Code} (h : Ok P lim n c st Q) : OkQ P lim n c st Q := by
 intro fr F a w g hF hR
 refine wp_mono (h _ F a w g hF hR) ?_
 rintro e a' w' ⟨st', F', g', h1, h2, h3⟩
 obtain ⟨k1, k2⟩ := Lf.of h3
 exact ⟨st', F', g', h1, h2, k1, k2⟩
def seqZ (P : Program) (lim n : Nat) (y : Code) (Q : Exit -> St -> Prop) : Exit -> St -> Prop := fun e st' => match e with | .normal => OkQ P lim n y st' Q | e => Q e st'
theorem OkQ.seq {x y : Code} (h : OkQ P lim n x st (seqZ P lim n y Q)) : OkQ P lim n (.seq x y) st Q := by
 intro fr F a w g hF hR
 refine wp_seq (wp_mono (h fr F a w g hF hR) ?_)
 rintro e a' w' ⟨st', F', g', h1, h2, h3, h4⟩
 cases e with
 | normal =>
  refine wp_mono (h1 fr F' a' w' g' h2 h3) ?_
  rintro e a2 w2 ⟨st2, F2, g2, k1, k2, k3, k4⟩
  exact ⟨st2, F2, g2, k1, k2, k3, h4.trans k4⟩
 | _ => exact ⟨st', F', g', h1, h2, h3, h4⟩
theorem OkQ.block {id : Nat} {c : Code} (h : OkQ P lim n c st (zwv id Q)) : OkQ P lim n (.block id c) st Q := by
 intro fr F a w g hF hR
 refine wp_block (wp_mono (h fr F a w g hF hR) ?_)
 rintro e a' w' ⟨st', F', g', h1, h2, h3⟩
 cases e with
 | exit i =>
  simp only [Exit.inBlock]
  simp only [zwv] at h1
  by_cases hi : i = id
  subst hi; simp only [Nat.beq_refl, cond_true, if_true] at h1 ⊢; exact ⟨st', F', g', h1, h2, h3⟩
  rw [zc4 hi] at h1
  simp only [hi, if_false, cond_false] at h1 ⊢; exact ⟨st', F', g', h1, h2, h3⟩
 | _ => exact ⟨st', F', g', h1, h2, h3⟩
theorem OkQ.cond {c : Operand} {x y : Code} {b : Bool} (hk : zc6 c = true) (hc : ev (getR st.vars) c = .bool b) (h1 : b = true -> OkQ P lim n x st Q) (h2 : b = false -> OkQ P lim n y st Q) : OkQ P lim n (.cond c x y) st Q := by
 intro fr F a w g hF hR
 have := zq5 hR.rd c hk
 rw [hF.1, hc] at this
 simp only [rep] at this
 cases b
 exact wp_cond_false this (h2 rfl fr F a w g hF hR)
 exact wp_cond_true this (h1 rfl fr F a w g hF hR)
theorem OkQ.skip (h : Q .normal st) : OkQ P lim n .skip st Q := .of (.skip h)
theorem OkQ.exit {id : Nat} (h : Q (.exit id) st) : OkQ P lim n (.exit id) st Q := .of (.exit h)
theorem OkQ.ret (h : Q .ret st) : OkQ P lim n .ret st Q := .of (.ret h)
theorem OkQ.goes {c : Code} {s : St} (h : Goes lim st.nx st s) (hc : OkQ P lim n c s Q) : OkQ P lim n c st Q := by
 intro fr F a w g hF hR
 obtain ⟨F', g', h1, h2⟩ := h _ n F a w g (fun id k1 k2 => hF.2.2 id k1 k2) hF hR
 obtain ⟨k1, k2⟩ := Lf.of h2
 refine wp_mono (hc fr F' a w g' h1 k1) ?_
 rintro e a2 w2 ⟨st2, F2, g2, e1, e2, e3, e4⟩
 exact ⟨st2, F2, g2, e1, e2, e3, k2.trans e4⟩
def ya4r {ι : Type} (lim : Nat) (S : ι -> St) (Pr : ι -> Prop) (μ : ι -> Nat) (i : ι) (Q : Exit -> St -> Prop) : Exit -> St -> Prop := fun e st' => match e with | .normal => ∃ j, Goes lim st'.nx st' (S j) /\ Pr j /\ μ j < μ i | e => Q e st'
theorem OkQ.loop {c : Code} {ι : Type} (S : ι -> St) (Pr : ι -> Prop) (μ : ι -> Nat) (i0 : ι) (hs : Goes lim st.nx st (S i0)) (h0 : Pr i0) (round : ∀ i, Pr i -> OkQ P lim n c (S i) (ya4r lim S Pr μ i Q)) : OkQ P lim n (.loop c) st Q := by
 intro fr F a w g hF hR b k cs
 have key : ∀ m i, μ i = m -> Pr i -> ∀ (F : FrS) (a : Act) (w : World) (g : Gh), F.on lim (S i) -> Rel (En.at w fr g F) n F a w g -> ∃ e a' w', (∃ st' F' g', Q e st' /\ F'.on lim st' /\ Rel (En.at w' fr g' F') n F' a' w' g' /\ Lf F w g F' w' g') /\ Arrives P (lone (b.at a (.code c :: .inLoop c :: k)) cs w) b k cs e a' w' := by
  intro m
  induction m using Nat.strongRecOn with
  | _ m ih =>
   intro i hm hI F a w g hF hR
   obtain ⟨e, a₁, w₁, ⟨st', F', g', hq, hF', hrel, hlf⟩, harr⟩ := round i hI fr F a w g hF hR b (.inLoop c :: k) cs
   cases e with
   | normal =>
    obtain ⟨j, h1, h2, h3⟩ := hq
    obtain ⟨F2, g2, hF2, hR2⟩ := h1 _ n F' a₁ w₁ g' (fun id k1 k2 => hF'.2.2 id k1 k2) hF' hrel
    obtain ⟨k1, k2⟩ := Lf.of hR2
    obtain ⟨e₂, a₂, w₂, ⟨st3, F3, g3, e1, e2, e3, e4⟩, harr₂⟩ := ih (μ j) (hm ▸ h3) j rfl h2 F2 a₁ w₁ g2 hF2 k1
    exact ⟨e₂, a₂, w₂, ⟨st3, F3, g3, e1, e2, e3, (hlf.trans k2).trans e4⟩, .of_steps (Steps.trans harr (.one step_inLoop)) harr₂⟩
   | exit id => exact ⟨_, a₁, w₁, ⟨st', F', g', hq, hF', hrel, hlf⟩, .pass (x := .inLoop c) rfl (fun _ _ => .inl (by simp)) harr⟩
   | goto l => exact ⟨_, a₁, w₁, ⟨st', F', g', hq, hF', hrel, hlf⟩, .pass (x := .inLoop c) rfl (fun _ _ => .inl (by simp)) harr⟩
   | ret => exact ⟨_, a₁, w₁, ⟨st', F', g', hq, hF', hrel, hlf⟩, .pass (x := .inLoop c) rfl (fun _ _ => .inl (by simp)) harr⟩
   | panic ch => exact ⟨_, a₁, w₁, ⟨st', F', g', hq, hF', hrel, hlf⟩, .pass (x := .inLoop c) rfl (fun _ _ => .inl (by simp)) harr⟩
   | outgrown => exact ⟨_, a₁, w₁, ⟨st', F', g', hq, hF', hrel, hlf⟩, .pass (x := .inLoop c) rfl (fun _ _ => .inl (by simp)) harr⟩
 obtain ⟨F1, g1, hF1, hR1⟩ := hs _ n F a w g (fun id k1 k2 => hF.2.2 id k1 k2) hF hR
 obtain ⟨k1, k2⟩ := Lf.of hR1
 obtain ⟨e, a', w', ⟨st3, F3, g3, e1, e2, e3, e4⟩, harr⟩ := key _ i0 rfl h0 F1 a w g1 hF1 k1
 exact ⟨e, a', w', ⟨st3, F3, g3, e1, e2, e3, k2.trans e4⟩, .of_steps (.one step_loop) harr⟩
theorem zo4 {tab : Nat -> TI} {own : Bool} {E : En} (hT : zhv P tab) {ops : Array Oper} (hok : zok n ops = true) {Q : Exit -> Act -> World -> Prop} (m : Nat) : ∀ (l : List Oper) (k : Nat) (st st' : St) (os : List (Out × FP)) (F : FrS) (a : Act) (w : World) (g : Gh),
  (∀ i (h : i < l.length), ops[k + i]? = some l[i]) -> Chain P tab own lim ops l st os st' -> F.on lim st -> Rel E n F a w g -> (∀ F' a' w' g', F'.on lim st' -> Rel E n F' a' w' g' -> wpOps P ops Q (List.range' (k + l.length) m) a' w') -> wpOps P ops Q (List.range' k (l.length + m)) a w
 | [], k, st, st', os, F, a, w, g, _, h, hF, hR, hQ => by
  cases h
  simpa using hQ _ _ _ _ hF hR
 | o :: l, k, st, st', os, F, a, w, g, hl, h, hF, hR, hQ => by
  cases h with
  | cons hf hn h =>
   have hi : ops[k]? = some o := by have := hl 0 (by simp); simpa using this
   obtain ⟨h1, h2, h3⟩ := zl7 hok hi
   rw [show (o :: l).length + m = (l.length + m) + 1 by simp; omega, List.range'_succ, wpOps_cons]
   refine zn8 hT hi h1 h2 h3 hR (zsw hF hf) fun v w' g' hrel => ?_
   refine zo4 hT hok m l (k + 1) _ _ _ _ _ _ _ (fun i hi => ?_) h (zz0 hF o _ hn) hrel fun F' a' w' g' e1 e2 => ?_
   have := hl (i + 1) (by simp; omega)
   rw [show k + (i + 1) = k + 1 + i by omega] at this
   simpa using this
   have := hQ F' a' w' g' e1 e2
   rw [show k + (o :: l).length = k + 1 + l.length by simp; omega] at this
   exact this
theorem Rel.spoil {fr : Nat} {F : FrS} {a : Act} {w : World} {g : Gh} {b off : Nat} {cs : Array Value} {T : TypeId} {x : Value} {E : En} (hE : E.fr = fr) (hR : Rel E n F a w g) (hg : w.heap[b]? = some (.cells cs T (0, 0))) (hf : z1 g b) (hO : ¬ ownB g F.hp b) (hx : x.oneCell' = true) (hsx : scal x = true) (ho : off < cs.size) (hsc : scal cs[off] = true)
  (h1 : ∀ t, Lz (F.rd t)) (h2 : ∀ id blk, F.hp id = some blk -> LzB blk) (new : Array Value) (hn : new = (cs.toList.take off ++ [x] ++ cs.toList.drop (off + 1)).toArray) :
  Rel (En.at (w.setRow b new) fr g F) n F a (w.setRow b new) g /\ Lf F w g F (w.setRow b new) g := by
 subst hE
 have hs := zya (N := z1 g) (O := fun k => ownB g F.hp k) hg hf hx hsx ho hsc new hn
 have hsz : new.size = cs.size := by subst hn; simp; omega
 have hK := zgi w b cs new T (0, 0) hg hsz
 have hh : (w.setRow b new).heap.size = w.heap.size := by simp
 have hC : LzC (z1 g) (fun k => ownB g F.hp k) (cx w g F.hp) (cx (w.setRow b new) g F.hp) := by
  refine ⟨hs, rfl, rfl, rfl, id, id, fun b _ h => ⟨h, h⟩, fun Z2 hZ b hb => ?_⟩
  obtain ⟨Z2', e1, e2⟩ := hR.mem.zs.z2
  have : Z2' = Z2 := by
   have h : (cx w g F.hp).zone 2 = g.zn 2 := rfl
   rw [h, e1] at hZ
   exact sj hZ
  subst this
  rintro ⟨Z1, f1, f2⟩
  obtain ⟨Z1', f3, f4, _⟩ := hR.mem.zs.z1
  rw [f1] at f3
  have := sj f3
  subst this
  have := (f4 b f2).1
  have := (e2 b hb).1
  omega
 refine ⟨.at hR.sz hR.df (fun t => zrp hC _ _ (h1 t) (hR.rd t)) ⟨fun id blk hb => ?_, hR.mem.inj, hR.mem.nw, ?_, by rw [hh]; exact hR.mem.fl⟩, ⟨hs, fun _ h => .inr h, ⟨rfl, rfl⟩, fun _ _ => rfl, fun _ h => h⟩⟩
 have hl := h2 id blk hb
 have hold := hR.mem.hd id blk hb
 have hsame : ∀ b', ownB g F.hp b' -> (w.setRow b new).heap[b']? = w.heap[b']? := fun b' hb' => setRow_other w b b' new (fun e => hO (e ▸ hb'))
 cases blk with
 | box cells =>
  obtain ⟨b1, cv, T1, e1, e2, e3, e4⟩ := hold
  have hb1 : ownB g F.hp b1 := ⟨id, 0, by rw [hb]; simp, e1⟩
  exact ⟨b1, cv, T1, e1, (hsame b1 hb1).trans e2, zog hC _ _ hl e3, e4⟩
 | arr e s p items =>
  rcases hold with h | ⟨b1, cv, e1, e2, e3, e4⟩
  exact .inl h
  have hb1 : ownB g F.hp b1 := ⟨id, 0, by rw [hb]; simp, e1⟩
  refine .inr ⟨b1, cv, e1, (hsame b1 hb1).trans e2, e3, ?_⟩
  exact zsy (C := { cx w g F.hp with rf := !p }) (C' := { cx (w.setRow b new) g F.hp with rf := !p }) ⟨hC.sp, hC.σ, hC.Z, hC.zn, hC.fl, fun h => h, hC.M, hC.z2⟩ _ _ _ _ (hsame b1 hb1) hl e4
 | map es => exact hl.elim
 have hz := hR.mem.zs
 exact ⟨fun b hb => hz.z0 b (by rw [hh] at hb; exact hb), by obtain ⟨Z1, e1, e2, e3⟩ := hz.z1; exact ⟨Z1, e1, e2, fun b hb => e3 b (by rw [hh] at hb; exact hb)⟩, hz.z2, fun m Zm hm hzm b hb => by rw [hh]; exact hz.zr m Zm hm hzm b hb, hz.zo⟩
theorem zym {C : Cx} {d : D} : ∀ {l : List D} {vs : List Value} {i : Nat}, reps C l vs -> l[i]? = some d -> ∃ v, vs[i]? = some v /\ rep C d v
 | x :: l, vs, i, h, hi => by
  simp only [reps] at h
  obtain ⟨v, t, rfl, h1, h2⟩ := h
  cases i with
  | zero => simp at hi; subst hi; exact ⟨v, rfl, h1⟩
  | succ i => obtain ⟨v', e1, e2⟩ := zym (i := i) h2 (by simpa using hi); exact ⟨v', by simpa using e1, e2⟩
theorem zpw {E : En} {F : FrS} {a : Act} {w : World} {g : Gh} {s i fo : Nat} {l : List D} {v : Value} (hR : Rel E n F a w g) (h : rep (cx w g F.hp) (.imm s l 13) v) (hi : i < l.length) (hc : (nth l i).cells[fo]? = some .sc) :
  ∃ a0 cap cs T, v = .slice (some a0) l.length cap /\ a0.spot = none /\ w.heap[a0.block]? = some (.cells cs T (0, 0)) /\ z1 g a0.block /\ ¬ ownB g F.hp a0.block /\ ∃ h : a0.off + i * s + fo < cs.size, scal cs[a0.off + i * s + fo] = true := by
 simp only [rep] at h
 obtain ⟨ad, cap, rfl, q1, q2, _, _, _, q6, hfl, q7⟩ := h
 rcases q7 with rfl | q7
 simp at hi
 obtain ⟨Z1, hZ1, _, _⟩ := hR.mem.zs.z1
 obtain ⟨a0, rfl, hsp, hM, hlo, hb, hel⟩ := q7 Z1 hZ1
 obtain ⟨v, hv, hvs, hr⟩ := zqw hel hi
 obtain ⟨cs, T, hblk⟩ := hb.2 rfl
 have hblk : w.heap[a0.block]? = some (.cells cs T (0, 0)) := hblk
 have hr : w.rangeAt a0.block (a0.off + i * s) v.cells.toList := hr
 have hne : (nth l i).cells ≠ [] := fun e => by rw [e] at hc; simp at hc
 have hcr := zj7 hv (zgt hv hne).symm
 obtain ⟨x, hx1, hx2⟩ := zym hcr hc
 simp only [rep] at hx2
 rw [zdg hblk] at hr
 have hat := hr fo x hx1
 obtain ⟨hlt, he⟩ := Array.getElem?_eq_some_iff.1 hat
 exact ⟨a0, cap, cs, T, rfl, hsp, hblk, ⟨Z1, hZ1, hlo⟩, hM, hlt, by rw [he]; exact hx2⟩
theorem FrS.put_undef {F : FrS} {p : Nat} (hp : F.rd p = .undef) : F.put (some p) .undef = F := by
 have : (F.put (some p) .undef).rd = F.rd := by
  funext t
  simp only [FrS.put]
  by_cases e : p = t
  subst e; rw [hp]; simp
  have e' : (some p == some t) = false := by simpa using e
  simp [e']
 obtain ⟨rd1, hp1, nu1⟩ := F
 simp only [FrS.put] at this ⊢
 rw [this]
theorem zv0 {a : Act} {p : Nat} {v : Value} (h : p < a.tmps.size) : (a.put (some p) v).eval (.tmp p) = v := by simp [Act.put, Act.eval, h]
theorem OkQ.fset {tab : Nat -> TI} (hT : zhv P tab) {id : Nat} {ops : Array Oper} (V V2 : List Nat) {o1 o2 : Oper} (pre : List Oper) {t t2 : TypeId} {x y : Operand} {cv : Value} {p s1 : Nat} {k : IntKind} {m : Int} {l : List D} {st' : St}
  (hops : ops.toList = pre ++ [o1, o2]) (hok : zok n ops = true)
  (h1 : o1.op = .indexAddr t x y) (d1 : o1.dst = some p) (gd1 : o1.guard = none) (h2 : o2.op = .store t2 (.tmp p) (.const cv)) (d2 : o2.dst = none) (gd2 : o2.guard = none)
  (hk : (tab t).kind = 3) (he : (tab t).esz = s1) (hk2 : (tab t2).kind ≠ 0) (hsz : (tab t2).size = 1) (kx : zc6 x = true) (ky : zc6 y = true) (hcv : cv.cells = #[cv] /\ cv.oneCell' = true /\ scal cv = true)
  (hpre : WRun P tab true lim ops pre ⟨keep V st.vars, st.heap, st.nx⟩ [] fun s' _ => ⟨keep V2 s'.vars, s'.heap, s'.nx⟩ = st')
  (hx : ev (getR st'.vars) x = .imm s1 l 13) (hy : ev (getR st'.vars) y = .int k m) (hm : 0 <= m /\ m < (l.length : Int)) (hc : (nth l m.toNat).cells[0]? = some .sc) (hp : getR st'.vars p = .undef)
  (hL : ∀ t, Lz (getR st'.vars t)) (hB : ∀ id blk, getL st'.heap id = some blk -> LzB blk) (hQ : Q .normal st') : OkQ P lim n (.region id ops false) st Q := by
 intro fr F a w g hF hR
 obtain ⟨F0, hF0, hR0⟩ := hR.sub hF (st' := ⟨keep V st.vars, st.heap, st.nx⟩) ⟨fun t d h => zii V _ t d h, fun _ _ h => h, Nat.le_refl _⟩
 obtain ⟨os, s', hch, hq⟩ := hpre
 subst hq
 have hi1 : ops[pre.length]? = some o1 := by rw [<- Array.getElem?_toList, hops]; simp
 have hi2 : ops[pre.length + 1]? = some o2 := by rw [<- Array.getElem?_toList, hops]; simp
 have hsize : ops.size = pre.length + 2 := by rw [<- Array.length_toList, hops]; simp
 refine wp_region ?_
 rw [List.range_eq_range', hsize]
 refine zo4 hT hok 2 pre 0 _ _ _ F0 a w g (fun i hi => ?_) hch hF0 hR0 fun F1 a1 w1 g1 hF1 hR1 => ?_
 rw [Nat.zero_add, <- Array.getElem?_toList, hops, List.getElem?_append_left hi, List.getElem?_eq_getElem hi]
 obtain ⟨F1, hF1, hR1⟩ := hR1.sub hF1 (st' := ⟨keep V2 s'.vars, s'.heap, s'.nx⟩) ⟨fun t d h => zii V2 _ t d h, fun _ _ h => h, Nat.le_refl _⟩
 obtain ⟨_, hd1, _⟩ := zl7 hok hi1
 rw [Nat.zero_add, show (2 : Nat) = 1 + 1 from rfl, List.range'_succ, wpOps_cons]
 -- the element's place
 have hrx := zq5 hR1.rd x kx
 have hry := zq5 hR1.rd y ky
 rw [hF1.1, hx] at hrx
 rw [hF1.1, hy] at hry
 have ht := hT.1 t (by rw [hk]; decide)
 obtain ⟨e, j, hu, hj, hj1, hj2, hj3, hj4, _, _⟩ := zcb ht hk
 simp only [rep] at hry
 obtain ⟨hay, _⟩ := hry
 have hlt : m.toNat < l.length := by omega
 obtain ⟨a0, cap, cs, T, hax, hsp, hblk, hz, hown, hcell, hsc⟩ := zpw hR1 hrx hlt hc
 have hrun1 : (execOp a1.eval o1).run P w1 = .ok (.value (.pointer (some ⟨a0.block, a0.off + m.toNat * j.size, none⟩))) w1 := by
  unfold execOp
  simp [h1, hax, hay, zl1 hu hj hm.1 hm.2 hsp]
 have hw1 : Region.wanted o1 (yielded ops a1.tmps) = true := by simp [Region.wanted, gd1]
 unfold wpOp
 simp only [hi1, hw1, if_true]
 left
 unfold Oper.wp
 rw [hrun1, Oper.upon_value, d1]
 have hp1 : p < a1.tmps.size := Nat.lt_of_lt_of_le (hd1 p d1) hR1.sz
 have hR2 := Rel.put hR1 (dst := some p) (d := .undef) (v := .pointer (some ⟨a0.block, a0.off + m.toNat * j.size, none⟩)) (fun t h => hd1 t (by rw [d1]; exact h)) (by simp only [rep])
 rw [FrS.put_undef (by rw [hF1.1, hp])] at hR2
 -- the store
 have hcs1 : cv.cells.size = 1 := by rw [hcv.1]; rfl
 have hev2 : (a1.put (some p) (.pointer (some ⟨a0.block, a0.off + m.toNat * j.size, none⟩))).eval (.tmp p) = .pointer (some ⟨a0.block, a0.off + m.toNat * j.size, none⟩) := zv0 hp1
 have hjm : a0.off + m.toNat * j.size = a0.off + m.toNat * s1 + 0 := by rw [hj1, he] <;> rfl
 let new : Array Value := (cs.toList.take (a0.off + m.toNat * s1 + 0) ++ cv.cells.toList ++ cs.toList.drop (a0.off + m.toNat * s1 + 0 + cv.cells.size)).toArray
 have hst : (storeVar t2 ⟨a0.block, a0.off + m.toNat * j.size, none⟩ cv).run P w1 = .ok () (w1.setRow a0.block new) := by
  rw [hjm]
  exact zjv (P := P) (v := cv) (off := a0.off + m.toNat * s1 + 0) (hT.1 t2 hk2) (by rw [hcs1, hsz]) hblk (by rw [hsz]; omega) (by rw [hcv.1]; simpa using hcv.2.1)
 have hrun3 : (execOp (a1.put (some p) (.pointer (some ⟨a0.block, a0.off + m.toNat * j.size, none⟩))).eval o2).run P w1 = .ok .skip (w1.setRow a0.block new) := by
  unfold execOp
  simp only [h2, hev2, Instr.storeAt, Instr.sureAddr, pure_bind, Sem.run_bind]
  have hc : (a1.put (some p) (.pointer (some ⟨a0.block, a0.off + m.toNat * j.size, none⟩))).eval (.const cv) = cv := rfl
  rw [hc, hst]
  simp only [Result.andThen_ok, Sem.run_pure]
 have hw3 : ∀ tm, Region.wanted o2 (yielded ops tm) = true := fun tm => by simp [Region.wanted, gd2]
 rw [show pre.length + 1 = pre.length + 1 from rfl, List.range'_succ, wpOps_cons]
 unfold wpOp
 simp only [hi2, hw3, if_true]
 left
 unfold Oper.wp
 rw [hrun3, Oper.upon_skip, d2]
 have hne : new = (cs.toList.take (a0.off + m.toNat * s1 + 0) ++ [cv] ++ cs.toList.drop (a0.off + m.toNat * s1 + 0 + 1)).toArray := by
  show (_ : List Value).toArray = _
  rw [hcs1, hcv.1]
 obtain ⟨hR3, hlf⟩ := Rel.spoil (E := En.at w fr g F) (fr := fr) rfl hR2 hblk hz hown hcv.2.1 hcv.2.2 hcell hsc (fun t => by rw [hF1.1]; exact hL t) (fun id blk h => hB id blk (by rw [<- hF1.2.1]; exact h)) new hne
 obtain ⟨_, hlf1⟩ := Lf.of hR1
 simp only [List.range'_zero, wpOps]
 exact ⟨_, F1, g1, hQ, hF1, hR3, hlf1.trans hlf⟩
theorem OkQ.fset2 {tab : Nat -> TI} (hT : zhv P tab) {id : Nat} {ops : Array Oper} (V V2 : List Nat) {o1 o2 o3 : Oper} (pre : List Oper) {t t2 t3 : TypeId} {x y : Operand} {cv : Value} {p p2 fi fo sz s1 : Nat} {ag : Bool} {k : IntKind} {m : Int} {l : List D} {st' : St}
  (hops : ops.toList = pre ++ [o1, o2, o3]) (hok : zok n ops = true)
  (h1 : o1.op = .indexAddr t x y) (d1 : o1.dst = some p) (gd1 : o1.guard = none) (h2 : o2.op = .fieldAddr t3 (.tmp p) fi) (d2 : o2.dst = some p2) (gd2 : o2.guard = none) (h3 : o3.op = .store t2 (.tmp p2) (.const cv)) (d3 : o3.dst = none) (gd3 : o3.guard = none)
  (hk : (tab t).kind = 3) (he : (tab t).esz = s1) (hk3 : (tab t3).kind = 2) (hfo : (tab t3).offs[fi]? = some (fo, sz, ag)) (hk2 : (tab t2).kind ≠ 0) (hsz : (tab t2).size = 1) (kx : zc6 x = true) (ky : zc6 y = true) (hcv : cv.cells = #[cv] /\ cv.oneCell' = true /\ scal cv = true)
  (hpre : WRun P tab true lim ops pre ⟨keep V st.vars, st.heap, st.nx⟩ [] fun s' _ => ⟨keep V2 s'.vars, s'.heap, s'.nx⟩ = st')
  (hx : ev (getR st'.vars) x = .imm s1 l 13) (hy : ev (getR st'.vars) y = .int k m) (hm : 0 <= m /\ m < (l.length : Int)) (hc : (nth l m.toNat).cells[fo]? = some .sc) (hp : getR st'.vars p = .undef) (hp2 : getR st'.vars p2 = .undef)
  (hL : ∀ t, Lz (getR st'.vars t)) (hB : ∀ id blk, getL st'.heap id = some blk -> LzB blk) (hQ : Q .normal st') : OkQ P lim n (.region id ops false) st Q := by
 intro fr F a w g hF hR
 obtain ⟨F0, hF0, hR0⟩ := hR.sub hF (st' := ⟨keep V st.vars, st.heap, st.nx⟩) ⟨fun t d h => zii V _ t d h, fun _ _ h => h, Nat.le_refl _⟩
 obtain ⟨os, s', hch, hq⟩ := hpre
 subst hq
 have hi1 : ops[pre.length]? = some o1 := by rw [<- Array.getElem?_toList, hops]; simp
 have hi2 : ops[pre.length + 1]? = some o2 := by rw [<- Array.getElem?_toList, hops]; simp
 have hi3 : ops[pre.length + 1 + 1]? = some o3 := by
  rw [<- Array.getElem?_toList, hops, List.getElem?_append_right (by omega), show pre.length + 1 + 1 - pre.length = 2 by omega]; rfl
 have hsize : ops.size = pre.length + 3 := by rw [<- Array.length_toList, hops]; simp
 refine wp_region ?_
 rw [List.range_eq_range', hsize]
 refine zo4 hT hok 3 pre 0 _ _ _ F0 a w g (fun i hi => ?_) hch hF0 hR0 fun F1 a1 w1 g1 hF1 hR1 => ?_
 rw [Nat.zero_add, <- Array.getElem?_toList, hops, List.getElem?_append_left hi, List.getElem?_eq_getElem hi]
 obtain ⟨F1, hF1, hR1⟩ := hR1.sub hF1 (st' := ⟨keep V2 s'.vars, s'.heap, s'.nx⟩) ⟨fun t d h => zii V2 _ t d h, fun _ _ h => h, Nat.le_refl _⟩
 obtain ⟨_, hd1, _⟩ := zl7 hok hi1
 rw [Nat.zero_add, show (3 : Nat) = 2 + 1 from rfl, List.range'_succ, wpOps_cons]
 -- the element's place
 have hrx := zq5 hR1.rd x kx
 have hry := zq5 hR1.rd y ky
 rw [hF1.1, hx] at hrx
 rw [hF1.1, hy] at hry
 have ht := hT.1 t (by rw [hk]; decide)
 obtain ⟨e, j, hu, hj, hj1, hj2, hj3, hj4, _, _⟩ := zcb ht hk
 simp only [rep] at hry
 obtain ⟨hay, _⟩ := hry
 have hlt : m.toNat < l.length := by omega
 obtain ⟨a0, cap, cs, T, hax, hsp, hblk, hz, hown, hcell, hsc⟩ := zpw hR1 hrx hlt hc
 have hrun1 : (execOp a1.eval o1).run P w1 = .ok (.value (.pointer (some ⟨a0.block, a0.off + m.toNat * j.size, none⟩))) w1 := by
  unfold execOp
  simp [h1, hax, hay, zl1 hu hj hm.1 hm.2 hsp]
 have hw1 : Region.wanted o1 (yielded ops a1.tmps) = true := by simp [Region.wanted, gd1]
 unfold wpOp
 simp only [hi1, hw1, if_true]
 left
 unfold Oper.wp
 rw [hrun1, Oper.upon_value, d1]
 have hp1 : p < a1.tmps.size := Nat.lt_of_lt_of_le (hd1 p d1) hR1.sz
 have hR2 := Rel.put hR1 (dst := some p) (d := .undef) (v := .pointer (some ⟨a0.block, a0.off + m.toNat * j.size, none⟩)) (fun t h => hd1 t (by rw [d1]; exact h)) (by simp only [rep])
 rw [FrS.put_undef (by rw [hF1.1, hp])] at hR2
 obtain ⟨_, hd2, _⟩ := zl7 hok hi2
 rw [show pre.length + 1 = pre.length + 1 from rfl, show (2 : Nat) = 1 + 1 from rfl, List.range'_succ, wpOps_cons]
 have hrun2 : (execOp (a1.put (some p) (.pointer (some ⟨a0.block, a0.off + m.toNat * j.size, none⟩))).eval o2).run P w1 = .ok (.value (.pointer (some ⟨a0.block, a0.off + m.toNat * j.size + fo, none⟩))) w1 := by
  unfold execOp
  have e := zl2 (P := P) (w := w1) (ad := ⟨a0.block, a0.off + m.toNat * j.size, none⟩) (hT.1 t3 (by rw [hk3]; decide)) hk3 hfo rfl
  simp only [h2, zv0 hp1]
  simp [e]
 have hw2 : ∀ tm, Region.wanted o2 (yielded ops tm) = true := fun tm => by simp [Region.wanted, gd2]
 unfold wpOp
 simp only [hi2, hw2, if_true]
 left
 unfold Oper.wp
 rw [hrun2, Oper.upon_value, d2]
 have hp2' : p2 < (a1.put (some p) (.pointer (some ⟨a0.block, a0.off + m.toNat * j.size, none⟩))).tmps.size := Nat.lt_of_lt_of_le (hd2 p2 d2) hR2.sz
 have hR2 := Rel.put hR2 (dst := some p2) (d := .undef) (v := .pointer (some ⟨a0.block, a0.off + m.toNat * j.size + fo, none⟩)) (fun t h => hd2 t (by rw [d2]; exact h)) (by simp only [rep])
 rw [FrS.put_undef (by rw [hF1.1, hp2])] at hR2
 -- the store
 have hcs1 : cv.cells.size = 1 := by rw [hcv.1]; rfl
 have hev2 : ((a1.put (some p) (.pointer (some ⟨a0.block, a0.off + m.toNat * j.size, none⟩))).put (some p2) (.pointer (some ⟨a0.block, a0.off + m.toNat * j.size + fo, none⟩))).eval (.tmp p2) = .pointer (some ⟨a0.block, a0.off + m.toNat * j.size + fo, none⟩) := zv0 hp2'
 have hjm : a0.off + m.toNat * j.size + fo = a0.off + m.toNat * s1 + fo := by rw [hj1, he] <;> rfl
 let new : Array Value := (cs.toList.take (a0.off + m.toNat * s1 + fo) ++ cv.cells.toList ++ cs.toList.drop (a0.off + m.toNat * s1 + fo + cv.cells.size)).toArray
 have hst : (storeVar t2 ⟨a0.block, a0.off + m.toNat * j.size + fo, none⟩ cv).run P w1 = .ok () (w1.setRow a0.block new) := by
  rw [hjm]
  exact zjv (P := P) (v := cv) (off := a0.off + m.toNat * s1 + fo) (hT.1 t2 hk2) (by rw [hcs1, hsz]) hblk (by rw [hsz]; omega) (by rw [hcv.1]; simpa using hcv.2.1)
 have hrun3 : (execOp ((a1.put (some p) (.pointer (some ⟨a0.block, a0.off + m.toNat * j.size, none⟩))).put (some p2) (.pointer (some ⟨a0.block, a0.off + m.toNat * j.size + fo, none⟩))).eval o3).run P w1 = .ok .skip (w1.setRow a0.block new) := by
  unfold execOp
  simp only [h3, hev2, Instr.storeAt, Instr.sureAddr, pure_bind, Sem.run_bind]
  have hc : ((a1.put (some p) (.pointer (some ⟨a0.block, a0.off + m.toNat * j.size, none⟩))).put (some p2) (.pointer (some ⟨a0.block, a0.off + m.toNat * j.size + fo, none⟩))).eval (.const cv) = cv := rfl
  rw [hc, hst]
  simp only [Result.andThen_ok, Sem.run_pure]
 have hw3 : ∀ tm, Region.wanted o3 (yielded ops tm) = true := fun tm => by simp [Region.wanted, gd3]
 rw [show pre.length + 1 + 1 = pre.length + 1 + 1 from rfl, List.range'_succ, wpOps_cons]
 unfold wpOp
 simp only [hi3, hw3, if_true]
 left
 unfold Oper.wp
 rw [hrun3, Oper.upon_skip, d3]
 have hne : new = (cs.toList.take (a0.off + m.toNat * s1 + fo) ++ [cv] ++ cs.toList.drop (a0.off + m.toNat * s1 + fo + 1)).toArray := by
  show (_ : List Value).toArray = _
  rw [hcs1, hcv.1]
 obtain ⟨hR3, hlf⟩ := Rel.spoil (E := En.at w fr g F) (fr := fr) rfl hR2 hblk hz hown hcv.2.1 hcv.2.2 hcell hsc (fun t => by rw [hF1.1]; exact hL t) (fun id blk h => hB id blk (by rw [<- hF1.2.1]; exact h)) new hne
 obtain ⟨_, hlf1⟩ := Lf.of hR1
 simp only [List.range'_zero, wpOps]
 exact ⟨_, F1, g1, hQ, hF1, hR3, hlf1.trans hlf⟩
end
def forB (g : Gh) (hp : Nat -> Option Blk) (H : List (Nat × Blk)) (b : Nat) : Prop := ∃ id o, hp id ≠ none /\ getL H id = none /\ g.σ id = some (b, o)
def ya19 (P : Program) (K : FuncId) (args : List D) (H : List (Nat × Blk)) (nw : Nat × Nat) : Prop :=
 zpb P K /\ ∀ (fr : Nat) (w : World) (g : Gh) (hp : Nat -> Option Blk) (nu : Nat -> Bool) (vs : List Value), Mem fr w g hp nu -> (∀ id b, getL H id = some b -> hp id = some b) -> (∀ id, nw.1 <= id -> id < nw.2 -> nu id = true) -> reps (cx w g hp) args vs ->
  Calls P K vs.toArray w fun e w' => e = .returned (.tuple #[]) /\ Sp (fun b => z1 g b /\ ¬ forB g hp H b) (zmo g hp fun id => getL H id ≠ none) w w'
section
variable {P : Program} {tab : Nat -> TI}
theorem zvr {K : FuncId} {fn : Func} {c : Code} {args : List D} {H : List (Nat × Blk)} {nw : Nat × Nat} (hf : P.funcs[K]? = some fn) (hb : fn.body = some c) (hname : fn.name ≠ "runtime.NumGoroutine") (hlen : args.length <= fn.ntmps) (hres : fn.results = #[])
  (h : wfL args -> OkQ P nw.2 fn.ntmps c ⟨zh1 0 args, H, nw.1⟩ fun e _ => e = .normal \/ e = .ret) : ya19 P K args H nw := by
 refine ⟨⟨fn, hf, hname, by rw [hb]; rfl⟩, fun fr w g hp nu vs hM hH hnw hvs => ?_⟩
 have hsz : vs.length = args.length := zds _ _ hvs
 let fo : Nat -> Prop := forB g hp H
 let gc : Gh := ⟨g.σ, fun b => g.Z b /\ ¬ fo b, fun m => (g.zn m).map fun Z b => Z b /\ ¬ fo b⟩
 let nuc : Nat -> Bool := fun id => decide (nw.1 <= id) && decide (id < nw.2)
 have hsub : ∀ id, getL H id ≠ none -> hp id ≠ none := by
  intro id h
  obtain ⟨b, hb⟩ := Option.ne_none_iff_exists'.1 h
  rw [hH id b hb]; simp
 have hfo : ∀ b, fo b -> ownB g hp b := fun b ⟨id, o, h1, _, h3⟩ => ⟨id, o, h1, h3⟩
 have hMc : ∀ b, ownB gc (getL H) b -> ownB g hp b := fun b ⟨id, o, h1, h2⟩ => ⟨id, o, hsub id h1, h2⟩
 have hzc : ∀ m Z', (cx w gc (getL H)).zone m = some Z' -> ∃ Z, (cx w g hp).zone m = some Z /\ ∀ b, Z' b ↔ Z b /\ ¬ fo b := by
  intro m Z' h
  unfold Cx.zone at h ⊢
  split at h
  cases h; simp only [*, if_true]; exact ⟨_, rfl, fun b => Iff.rfl⟩
  rename_i hm
  simp only [hm, if_false]
  simp only [cx, gc, Option.map_eq_some_iff] at h ⊢
  obtain ⟨Z, h1, rfl⟩ := h
  exact ⟨Z, h1, fun b => Iff.rfl⟩
 have hle : Cx.Le (cx w g hp) (cx w gc (getL H)) := by
  refine ⟨fun m _ Z' hZ' => ?_, fun _ _ => rfl, id, id, fun _ _ _ => rfl⟩
  obtain ⟨Z, h1, h2⟩ := hzc m Z' hZ'
  exact ⟨Z, h1, fun b k1 k2 k3 => ⟨fun h => k1 (hMc b h), (h2 b).2 ⟨k2, fun h => k1 (hfo b h)⟩, .refl k3⟩⟩
 have hnuc : ∀ id, nuc id = true -> nu id = true := by
  intro id h
  simp only [nuc, Bool.and_eq_true, decide_eq_true_eq] at h
  exact hnw id h.1 h.2
 have hmemc : Mem fr w gc (getL H) nuc := by
  refine ⟨fun id blk hb => zmj (C := cx w g hp) hle rfl rfl (fun _ _ _ => rfl) (hM.hd id blk (hH id blk hb)), fun id id' b o o' h1 h2 => hM.inj id id' b o o' (hsub id h1) (hsub id' h2), ?_, ?_, hM.fl⟩
  intro id hid
  obtain ⟨h1, h2⟩ := hM.nw id (hnuc id hid)
  refine ⟨h1, ?_⟩
  cases hg : getL H id with
  | none => rfl
  | some b => rw [hH id b hg] at h2; cases h2
  ·obtain ⟨Z1, k1, k2, k3⟩ := hM.zs.z1
   obtain ⟨Z2, k4, k5⟩ := hM.zs.z2
   have hnf : ∀ b, w.heap.size <= b -> ¬ fo b := fun b hb h => by have := hM.own_lt (hfo b h); omega
   refine ⟨fun b hb => ⟨hM.zs.z0 b hb, hnf b hb⟩, ⟨fun b => Z1 b /\ ¬ fo b, by simp only [gc, k1, Option.map_some], fun b hb => ⟨(k2 b hb.1).1, (k2 b hb.1).2, hb.2⟩, fun b hb => ⟨k3 b hb, hnf b hb⟩⟩, ⟨fun b => Z2 b /\ ¬ fo b, by simp only [gc, k4, Option.map_some], fun b hb => ⟨(k5 b hb.1).1, (k5 b hb.1).2, hb.2⟩⟩, ?_, fun b hb => ?_⟩
   rotate_left
   obtain ⟨c1, c2, Z, c3, c4⟩ := hM.zs.zo b (hMc b hb)
   have hnb : ¬ fo b := by
    rintro ⟨id2, o2, f1, f2, f3⟩
    obtain ⟨id, o, f4, f5⟩ := hb
    have := hM.inj id id2 b o o2 (hsub id f4) f1 f5 f3
    subst this
    exact f4 f2
   exact ⟨c1, ⟨c2, hnb⟩, fun b => Z b /\ ¬ fo b, by simp only [gc, c3, Option.map_some], c4, hnb⟩
   intro m Zm hm hZ b hb
   simp only [gc, Option.map_eq_some_iff] at hZ
   obtain ⟨Z, hZ, rfl⟩ := hZ
   obtain ⟨e1, e2, e3, e4, e5⟩ := hM.zs.zr m Z hm hZ b hb.1
   refine ⟨e1, e2, ⟨e3, hb.2⟩, fun h => e4 (hMc b h), ?_⟩
   intro m' Zm' hne hm' hZ' hb'
   simp only [gc, Option.map_eq_some_iff] at hZ'
   obtain ⟨Z', hZ', rfl⟩ := hZ'
   exact e5 m' Z' hne hm' hZ' hb'.1
 have hrel : Rel (En.at w fr gc ⟨getR (zh1 0 args), getL H, nuc⟩) fn.ntmps ⟨getR (zh1 0 args), getL H, nuc⟩ { tmps := vs.toArray ++ Array.replicate (fn.ntmps - vs.toArray.size) undef, defers := [] } w gc := by
  refine .at (by simp; omega) rfl (fun t => ?_) hmemc
  exact zqm args vs 0 t (zgb hle _ _ hvs) (vs.toArray ++ Array.replicate (fn.ntmps - vs.toArray.size) undef) (fun j v hj => by
   rw [Nat.zero_add, Array.getElem?_append_left (by simpa using (List.getElem?_eq_some_iff.1 hj).1)]
   simpa using hj)
 have hwf : wfL args := zn1 _ _ hvs
 refine calls_of_wp hf hb (wp_mono (h hwf fr _ _ w gc ⟨rfl, rfl, fun id h1 h2 => by simp [nuc, h1, h2]⟩ hrel) ?_)
 rintro e a' w' ⟨st', F', g', he, hF', hR', hlf⟩
 have hN : ∀ b, z1 gc b -> z1 g b /\ ¬ forB g hp H b := by
  rintro b ⟨Z, h1, h2⟩
  simp only [gc, Option.map_eq_some_iff] at h1
  obtain ⟨Z', h1, rfl⟩ := h1
  exact ⟨⟨Z', h1, h2.1⟩, h2.2⟩
 have hO : ∀ b, ownB gc (getL H) b ↔ zmo g hp (fun id => getL H id ≠ none) b := fun b => ⟨fun ⟨id, o, e1, e2⟩ => ⟨id, o, e1, hsub id e1, e2⟩, fun ⟨id, o, e1, _, e2⟩ => ⟨id, o, e1, e2⟩⟩
 have hs := hlf.sp
 have fin : a'.defers = [] /\ ∃ v, (results fn a'.tmps).run P w' = .ok v w' /\ ((Ending.returned v = .returned (.tuple #[])) /\ Sp (fun b => z1 g b /\ ¬ forB g hp H b) (zmo g hp fun id => getL H id ≠ none) w w') := by
  refine ⟨hR'.df, .tuple #[], ?_, rfl, ⟨hs.os, hs.tape, hs.output, hs.size, hs.shp, fun k h1 h2 h3 => hs.low k h1 (fun hn => h2 (hN k hn)) (fun ho => h3 ((hO k).1 ho)), fun b o l h1 => hs.rng b o l (fun ho => h1 ((hO b).1 ho)), fun b h1 => hs.unf b (fun ho => h1 ((hO b).1 ho))⟩⟩
  have hunf : results fn a'.tmps = (do let vs <- fn.results.mapM (resV a'.tmps); pure (if h : vs.size = 1 then vs[0] else .tuple vs)) := rfl
  rw [hunf, hres]
  simp [Sem.run_pure]
 rcases he with rfl | rfl <;> exact fin
theorem Sp.mono {N N' O O' : Nat -> Prop} {w w' : World} (h : Sp N O w w') (hn : ∀ b, N b -> N' b) (ho : ∀ b, O b -> O' b) : Sp N' O' w w' :=
 ⟨h.os, h.tape, h.output, h.size, h.shp, fun k h1 h2 h3 => h.low k h1 (fun e => h2 (hn k e)) (fun e => h3 (ho k e)), fun b o l h1 => h.rng b o l (fun e => h1 (ho b e)), fun b h1 => h.unf b (fun e => h1 (ho b e))⟩
theorem Rel.zcall {E : En} {n : Nat} {F : FrS} {a : Act} {w w' : World} {g : Gh} {H : List (Nat × Blk)} (hR : Rel E n F a w g) (_hH : ∀ id b, getL H id = some b -> F.hp id = some b) (hs : Sp (fun b => z1 g b /\ ¬ forB g F.hp H b) (zmo g F.hp fun id => getL H id ≠ none) w w')
  (h1 : ∀ t, Lz (F.rd t)) (h2 : ∀ id blk, F.hp id = some blk -> LzB blk) (hp' : Nat -> Option Blk) (hsub : ∀ id b, hp' id = some b -> F.hp id = some b /\ getL H id = none) :
  Rel (En.at w' E.fr g ⟨F.rd, hp', F.nu⟩) n ⟨F.rd, hp', F.nu⟩ a w' g /\ Lf F w g ⟨F.rd, hp', F.nu⟩ w' g := by
 have hne : ∀ id, hp' id ≠ none -> F.hp id ≠ none /\ getL H id = none := by
  intro id h
  obtain ⟨b, hb⟩ := Option.ne_none_iff_exists'.1 h
  obtain ⟨k1, k2⟩ := hsub id b hb
  exact ⟨by rw [k1]; simp, k2⟩
 have hown : ∀ b, ownB g hp' b -> ownB g F.hp b := fun b ⟨id, o, e1, e2⟩ => ⟨id, o, (hne id e1).1, e2⟩
 have hbo : ∀ b, zmo g F.hp (fun id => getL H id ≠ none) b -> ownB g F.hp b := fun b ⟨id, o, _, e1, e2⟩ => ⟨id, o, e1, e2⟩
 have hzs := hR.mem.zs
 have hC : LzC (fun b => z1 g b /\ ¬ forB g F.hp H b) (zmo g F.hp fun id => getL H id ≠ none) (cx w g F.hp) (cx w' g hp') := by
  refine ⟨hs, rfl, rfl, rfl, id, id, fun b _ h => ⟨fun k => h (hown b k), fun k => h (hbo b k)⟩, fun Z2 hZ b hb => ?_⟩
  obtain ⟨Z2', e1, e2⟩ := hzs.z2
  have : Z2' = Z2 := by
   have h : (cx w g F.hp).zone 2 = g.zn 2 := rfl
   rw [h, e1] at hZ
   exact sj hZ
  subst this
  rintro ⟨⟨Z1, f1, f2⟩, _⟩
  obtain ⟨Z1', f3, f4, _⟩ := hzs.z1
  rw [f1] at f3
  have := sj f3
  subst this
  have := (f4 b f2).1
  have := (e2 b hb).1
  omega
 refine ⟨.at hR.sz hR.df (fun t => zrp hC _ _ (h1 t) (hR.rd t)) ⟨fun id blk hb => ?_, fun id id' b o o' e1 e2 => hR.mem.inj id id' b o o' (hne id e1).1 (hne id' e2).1, fun id hid => ?_, ?_, Nat.le_trans hR.mem.fl hs.size⟩, ⟨hs.mono (fun b h => h.1) hbo, fun b h => .inr (hown b h), ⟨rfl, rfl⟩, fun _ _ => rfl, fun _ h => h⟩⟩
 obtain ⟨hb1, hb2⟩ := hsub id blk hb
 have hl := h2 id blk hb1
 have hold := hR.mem.hd id blk hb1
 have hsame : ∀ b' o', g.σ id = some (b', o') -> w'.heap[b']? = w.heap[b']? := by
  intro b' o' hσ
  have hob : ownB g F.hp b' := ⟨id, o', by rw [hb1]; simp, hσ⟩
  refine hs.low b' (hR.mem.own_lt hob) (fun h => h.2 ⟨id, o', by rw [hb1]; simp, hb2, hσ⟩) ?_
  rintro ⟨id2, o2, k1, k2, k3⟩
  have := hR.mem.inj id id2 b' o' o2 (by rw [hb1]; simp) k2 hσ k3
  subst this
  exact k1 hb2
 cases blk with
 | box cells =>
  obtain ⟨b1, cv, T1, e1, e2, e3, e4⟩ := hold
  exact ⟨b1, cv, T1, e1, (hsame b1 0 e1).trans e2, zog hC _ _ hl e3, e4⟩
 | arr e s p items =>
  rcases hold with h | ⟨b1, cv, e1, e2, e3, e4⟩
  exact .inl h
  refine .inr ⟨b1, cv, e1, (hsame b1 0 e1).trans e2, e3, ?_⟩
  exact zsy (C := { cx w g F.hp with rf := !p }) (C' := { cx w' g hp' with rf := !p }) ⟨hC.sp, hC.σ, hC.Z, hC.zn, hC.fl, fun h => h, hC.M, hC.z2⟩ _ _ _ _ (hsame b1 0 e1) hl e4
 | map es => exact hl.elim
 obtain ⟨k1, k2⟩ := hR.mem.nw id hid
 refine ⟨k1, ?_⟩
 cases hb : hp' id with
 | none => exact hb
 | some b =>
  rw [(hsub id b hb).1] at k2
  cases k2
 exact ⟨fun b hb => hzs.z0 b (Nat.le_trans hs.size hb), by obtain ⟨Z1, e1, e2, e3⟩ := hzs.z1; exact ⟨Z1, e1, e2, fun b hb => e3 b (Nat.le_trans hs.size hb)⟩, hzs.z2, fun m Zm hm hzm b hb => by
  obtain ⟨k1, k2, k3, k4, k5⟩ := hzs.zr m Zm hm hzm b hb
  exact ⟨Nat.lt_of_lt_of_le k1 hs.size, k2, k3, fun h => k4 (hown b h), k5⟩, fun b hb => hzs.zo b (hown b hb)⟩
theorem OkQ.zcall {lim n : Nat} {st : St} {Q : Exit -> St -> Prop} (hT : zhv P tab) {id : Nat} {ops : Array Oper} (V : List Nat) {o : Oper} (pre : List Oper) {c : Call} {f : Operand} {K : FuncId} {args : List D} {H : List (Nat × Blk)} {nw : Nat × Nat} {st' : St} (VH : List Nat)
  (hops : ops.toList = pre ++ [o]) (hok : zok n ops = true) (ho : o.op = .call c) (hc : c.callee = .value f) (hg : o.guard = none)
  (hpre : WRun P tab true lim ops pre ⟨keep V st.vars, st.heap, st.nx⟩ [] fun s' _ => s' = st')
  (hf : opd true (getR st'.vars) f = (.fn (.func K) [], true)) (ha : opds true (getR st'.vars) c.args.toList = (args, true))
  (hK : ya19 P K args H nw) (hH : ∀ id b, getL H id = some b -> getL st'.heap id = some b) (hn : st'.nx <= nw.1 /\ nw.2 <= lim)
  (hd : ∀ t, o.dst = some t -> getR st'.vars t = .undef)
  (hL : ∀ t, Lz (getR st'.vars t)) (hB : ∀ id blk, getL st'.heap id = some blk -> LzB blk) (hv : ∀ id b, getL (zer VH st'.heap) id = some b -> getL H id = none)
  (hQ : Q .normal ⟨st'.vars, zer VH st'.heap, st'.nx⟩) : OkQ P lim n (.region id ops false) st Q := by
 intro fr F a w g hF hR
 obtain ⟨F0, hF0, hR0⟩ := hR.sub hF (st' := ⟨keep V st.vars, st.heap, st.nx⟩) ⟨fun t d h => zii V _ t d h, fun _ _ h => h, Nat.le_refl _⟩
 obtain ⟨os, s', hch, hq⟩ := hpre
 subst hq
 have hi1 : ops[pre.length]? = some o := by rw [<- Array.getElem?_toList, hops]; simp
 have hsize : ops.size = pre.length + 1 := by rw [<- Array.length_toList, hops]; simp
 refine wp_region ?_
 rw [List.range_eq_range', hsize]
 refine zo4 hT hok 1 pre 0 _ _ _ F0 a w g (fun i hi => ?_) hch hF0 hR0 fun F1 a1 w1 g1 hF1 hR1 => ?_
 rw [Nat.zero_add, <- Array.getElem?_toList, hops, List.getElem?_append_left hi, List.getElem?_eq_getElem hi]
 obtain ⟨hop1, hd1, _⟩ := zl7 hok hi1
 rw [Nat.zero_add, List.range'_succ, wpOps_cons]
 have hx1 : ∀ x ∈ o.op.operands.toList, zc6 x = true := fun x hx => List.all_eq_true.1 hop1 x hx
 have hmf : f ∈ o.op.operands.toList := by rw [ho]; simp [Op.operands, Call.operands, hc]
 have hma : ∀ x ∈ c.args.toList, x ∈ o.op.operands.toList := by
  intro x hx
  rw [ho]
  simp only [Op.operands, Call.operands, hc, Array.toList_append, List.mem_append]
  exact .inr hx
 have hfr := zjd hR1.rd (hx1 f hmf) (by rw [hF1.1]; exact hf) rfl rfl
 simp only [rep] at hfr
 obtain ⟨cv, hfv, hcv⟩ := hfr
 have hcv : cv = [] := by simpa only [reps] using hcv
 subst hcv
 have har := zkh hR1.rd _ _ _ (by rw [hF1.1]; exact ha) rfl (List.all_eq_true.2 fun x hx => hx1 x (hma x hx))
 have hrun : (execOp a1.eval o).run P w1 = .ok (.enter K (c.args.toList.map a1.eval).toArray) w1 := by
  unfold execOp
  simp only [ho]
  rw [zl3 hc hfv, zti hK.1]
  simp
 have hw1 : Region.wanted o (yielded ops a1.tmps) = true := by simp [Region.wanted, hg]
 unfold wpOp
 simp only [hi1, hw1, if_true]
 left
 unfold Oper.wp
 rw [hrun]
 have hHF : ∀ id b, getL H id = some b -> F1.hp id = some b := fun id b h => by rw [hF1.2.1]; exact hH id b h
 refine Calls.mono (hK.2 fr w1 g1 F1.hp F1.nu _ hR1.mem hHF (fun id k1 k2 => hF1.2.2 id (Nat.le_trans hn.1 k1) (Nat.lt_of_lt_of_le k2 hn.2)) har) ?_
 rintro e w2 ⟨rfl, hs⟩
 obtain ⟨hR3, hlf⟩ := Rel.zcall hR1 hHF hs (fun t => by rw [hF1.1]; exact hL t) (fun id blk h => hB id blk (by rw [<- hF1.2.1]; exact h)) (getL (zer VH s'.heap)) (fun id b h => ⟨by rw [hF1.2.1]; exact zcr VH _ id b h, hv id b h⟩)
 have hR4 := Rel.put hR3 (dst := o.dst) (d := .undef) (v := .tuple #[]) hd1 (by simp only [rep])
 have hF4 : (⟨F1.rd, getL (zer VH s'.heap), F1.nu⟩ : FrS).put o.dst .undef = ⟨F1.rd, getL (zer VH s'.heap), F1.nu⟩ := by
  cases hdd : o.dst with
  | none => rfl
  | some t0 =>
   have : (fun t => bif (some t0 == some t) then D.undef else F1.rd t) = F1.rd := by
    funext t
    by_cases e : t0 = t
    subst e
    rw [hF1.1, hd t0 hdd]; simp
    have e' : (some t0 == some t) = false := by simpa using e
    simp [e']
   simp only [FrS.put]
   rw [this]
 rw [hF4] at hR4
 obtain ⟨_, hlf1⟩ := Lf.of hR1
 simp only [List.range'_zero, wpOps]
 exact ⟨_, ⟨F1.rd, getL (zer VH s'.heap), F1.nu⟩, g1, hQ, ⟨hF1.1, rfl, hF1.2.2⟩, hR4, hlf1.trans hlf⟩
end
def oldD (d : D) : D := mkM 2 (unf d)
theorem zu5 {α : Type} {l : List (Nat × α)} {i : Nat} {x : α} (h : getL l i = some x) : (i, x) ∈ l := by
 induction l with
 | nil => cases h
 | cons y l ih =>
  obtain ⟨a, z⟩ := y
  simp only [getL] at h
  cases hb : Nat.beq a i
  rw [hb] at h; exact List.mem_cons_of_mem _ (ih h)
  rw [hb] at h
  cases h
  have := nb hb
  subst this
  exact List.mem_cons_self ..
theorem zzh (f : D -> D) (hf : f .undef = .undef) (l : List (Nat × D)) (t : Nat) : getR (l.map fun x => (x.1, f x.2)) t = f (getR l t) := by
 induction l with
 | nil => simp [getR, getL, hf]
 | cons x l ih =>
  obtain ⟨a, d⟩ := x
  simp only [getR, List.map_cons, getL] at ih ⊢
  cases hb : Nat.beq a t
  simpa using ih
  simp
def oldH (H : List (Nat × Blk)) : D -> D
 | .ptr id 0 => match getL H id with | some (.box l) => .iptr 2 (unfL l) | _ => .undef
 | d => oldD d
def okH (H : List (Nat × Blk)) : D -> Bool
 | .ptr id 0 => match getL H id with | some (.box l) => okML low3 l && (D.idsL l).isEmpty | _ => false
 | d => okM low3 d && d.ids.isEmpty
theorem Ok.rebaseH {P : Program} {lim n : Nat} {c : Code} {st : St} {Q : Exit -> St -> Prop} (V : List Nat) (hk : ∀ x ∈ keep V st.vars, okH st.heap x.2 = true)
  (h : OkQ P lim n c ⟨(keep V st.vars).map fun x => (x.1, oldH st.heap x.2), [], st.nx⟩ fun e s => ∃ vs : List (Nat × D), (∀ x ∈ vs, (∃ b, x.2 = .bool b)) /\ (∀ t d, getL vs t = some d -> getL s.vars t = some d) /\ Q e ⟨vs, [], s.nx⟩) : Ok P lim n c st Q := by
 intro E F a w g hF hR
 obtain ⟨F0, hF0, hR0⟩ := hR.sub hF (st' := ⟨keep V st.vars, [], st.nx⟩) ⟨fun t d h => zii V _ t d h, (fun i x h => by cases h), Nat.le_refl _⟩
 obtain ⟨Fh, hFh, hRh⟩ := hR.sub hF (st' := ⟨keep V st.vars, st.heap, st.nx⟩) ⟨fun t d h => zii V _ t d h, (fun i x h => h), Nat.le_refl _⟩
 let Zt : Nat -> Prop := fun b => b < w.heap.size /\ g.Z b
 let g' : Gh := ⟨g.σ, g.Z, fun m => if m = 1 then some (fun b => w.heap.size <= b /\ g.Z b) else if m = 2 then some Zt else none⟩
 have hlow := hRh.mem.low
 let F1 : FrS := ⟨getR ((keep V st.vars).map fun x => (x.1, oldH st.heap x.2)), fun _ => none, F0.nu⟩
 have hle : ((cx w g Fh.hp).at Zt).Le ((cx w g' F1.hp).at Zt) := Cx.Le.inner' (C := cx w g Fh.hp) (C' := cx w g' F1.hp) (fun _ _ => rfl) fun b _ k2 k3 => ⟨fun ⟨id, o, h1, _⟩ => h1 rfl, k2, .refl k3⟩
 have hzt : ∀ m, low3 m = true -> ∃ Z, (cx w g Fh.hp).zone m = some Z /\ ∀ b, ¬ (cx w g Fh.hp).M b -> Z b -> b < (cx w g Fh.hp).w.heap.size -> Zt b := fun m hm => by
  obtain ⟨Z, k1, k2⟩ := hlow m hm
  exact ⟨Z, k1, fun b e1 e2 e3 => ⟨e3, k2 b e1 e2 e3⟩⟩
 have hconv1 : ∀ d v, okM low3 d = true -> d.ids = [] -> rep (cx w g Fh.hp) d v -> rep (cx w g' F1.hp) (oldD d) v := by
  intro d v h1 h2 h3
  have e1 := zme (C := cx w g Fh.hp) (q := low3) (Zt := Zt) hzt d v h1 h2 h3
  have e2 := zgj hle _ _ e1
  exact zq4 (C := cx w g' F1.hp) (m := 2) (by decide) rfl rfl _ _ e2
 have hconv : ∀ d v, okH st.heap d = true -> rep (cx w g Fh.hp) d v -> rep (cx w g' F1.hp) (oldH st.heap d) v := by
  intro d v h1 h3
  have hgen : (okM low3 d && d.ids.isEmpty) = true -> rep (cx w g' F1.hp) (oldD d) v := fun e => by
   simp only [Bool.and_eq_true, List.isEmpty_iff] at e
   exact hconv1 d v e.1 e.2 h3
  cases d with
  | ptr id off =>
   cases off with
   | succ off => simp [okH, D.ids] at h1
   | zero =>
    simp only [okH, oldH] at h1 ⊢
    split at h1
    rename_i l hb
    try simp only [hb]
    simp only [Bool.and_eq_true, List.isEmpty_iff] at h1
    simp only [rep] at h3
    obtain ⟨_, b, o, hσ, rfl⟩ := h3
    have hbh : Fh.hp id = some (.box l) := by rw [hFh.2.1]; exact hb
    obtain ⟨b', cs, T, hσ', hblk, hr, hone⟩ := hRh.mem.hd id _ hbh
    have e := hσ'.symm.trans hσ
    simp only [Option.some.injEq, Prod.mk.injEq] at e
    obtain ⟨rfl, rfl⟩ := e
    have hblk : w.heap[b']? = some (.cells cs T (0, 0)) := hblk
    have hlt : b' < w.heap.size := (Array.getElem?_eq_some_iff.1 hblk).1
    simp only [rep]
    refine ⟨_, rfl, rfl, fun _ => rfl, .inr fun Z' hZ' => ?_⟩
    have : Zt = Z' := by
     have e : (cx w g' F1.hp).zone 2 = some Zt := rfl
     rw [e] at hZ'
     exact sj hZ'
    subst this
    refine ⟨fun ⟨id, o, h1, _⟩ => h1 rfl, ⟨hlt, (hRh.mem.zs.zo b' ⟨id, 0, by rw [hbh]; simp, hσ⟩).2.1⟩, hlt, ?_⟩
    have h2 := zic (C := cx w g Fh.hp) (Zt := Zt) hzt _ _ h1.1 h1.2 hr
    have h3 := zgb hle _ _ h2
    refine zix _ _ b' _ h3 fun i u hu => ?_
    show w.cell? ⟨b', 0 + 0 + i, none⟩ = some u
    simp only [World.cell?, hblk, Nat.zero_add]
    simpa using hu
    cases h1
  | _ => exact hgen h1
 have hrd : ∀ t, F1.rd t = oldH st.heap (Fh.rd t) := by
  intro t
  show getR _ t = _
  rw [zzh (oldH st.heap) rfl, hFh.1]
 have hmem : Mem w.heap.size w g' F1.hp F1.nu := by
  refine ⟨(fun id blk h => by cases h), fun id id' b o o' h => absurd rfl h, fun id hid => ⟨(hR0.mem.nw id hid).1, rfl⟩, ⟨fun b hb => hR0.mem.zs.z0 b hb, ⟨_, rfl, fun b hb => hb, fun b hb => ⟨hb, hR0.mem.zs.z0 b hb⟩⟩, ⟨Zt, rfl, fun b hb => hb⟩, ?_, fun b ⟨id, o, h1, _⟩ => absurd rfl h1⟩, Nat.le_refl _⟩
  intro m Zm hm hz
  have : g'.zn m = none := by
   simp only [g']
   rw [if_neg (by omega), if_neg (by omega)]
  rw [this] at hz; cases hz
 have hR1 : Rel (En.at w w.heap.size g' F1) n F1 a w g' := by
  refine .at hR0.sz hR0.df (fun t => ?_) hmem
  rw [hrd]
  by_cases hu : Fh.rd t = .undef
  rw [hu]; simp only [oldH, oldD, unf, mkM, rep]
  have hget : getL (keep V st.vars) t = some (Fh.rd t) := by
   have := congrFun hFh.1 t
   unfold getR at this
   cases hg : getL (keep V st.vars) t with
   | none => rw [show ({ vars := keep V st.vars, heap := st.heap, nx := st.nx } : St).vars = keep V st.vars from rfl, hg] at this; exact absurd this hu
   | some d => rw [show ({ vars := keep V st.vars, heap := st.heap, nx := st.nx } : St).vars = keep V st.vars from rfl, hg] at this; rw [this]
  have hm : (t, Fh.rd t) ∈ keep V st.vars := zu5 hget
  exact hconv _ _ (hk _ hm) (hRh.rd t)
 refine wp_mono (h w.heap.size F1 a w g' ⟨rfl, rfl, hF0.2.2⟩ hR1) ?_
 rintro e a' w' ⟨s, F', g2, ⟨vs, hb, hsub, hq⟩, hF', hR', hlf⟩
 have hK : Keep (fun _ => False) w w' := by
  have hs := hlf.sp
  refine ⟨hs.os, hs.tape, hs.output, hs.size, fun k hk _ => hs.low k hk ?_ (fun ⟨id, o, h1, _⟩ => h1 rfl), hs.shp⟩
  rintro ⟨Z, e1, e2⟩
  have : (fun b => w.heap.size <= b /\ g.Z b) = Z := by simpa [g'] using e1
  subst this
  omega
 refine ⟨⟨vs, [], s.nx⟩, ⟨getR vs, fun _ => none, F'.nu⟩, g, hq, ⟨rfl, rfl, hF'.2.2⟩, ?_⟩
 have hE := hR0
 refine ⟨hR'.sz, hR'.df, fun t => ?_, ⟨(fun id blk h => by cases h), fun id id' b o o' h => absurd rfl h, fun id hid => ?_, ?_, Nat.le_trans hE.mem.fl hK.size⟩, fun id b o h => absurd rfl h, ?_, hE.gz, hE.gs, fun id hid => hE.nu id (hlf.nu id hid)⟩
 show rep _ (getR vs t) _
 cases hg : getL vs t with
 | none => simp only [getR, hg, rep]
 | some d =>
  have hv := hR'.rd t
  rw [hF'.1] at hv
  have : getR s.vars t = d := by simp only [getR, hsub t d hg]
  rw [this] at hv
  obtain ⟨b, hbd⟩ := hb _ (zu5 hg)
  have hbd : d = .bool b := hbd
  subst hbd
  simp only [getR, hg]
  simpa only [rep] using hv
 exact ⟨(hE.mem.nw id (hlf.nu id hid)).1, rfl⟩
 have hz := hE.mem.zs
 exact ⟨fun b hb => hz.z0 b (Nat.le_trans hK.size hb), by obtain ⟨Z1, e1, e2, e3⟩ := hz.z1; exact ⟨Z1, e1, e2, fun b hb => e3 b (Nat.le_trans hK.size hb)⟩, hz.z2, fun m Zm hm hzm b hb => by
  obtain ⟨k1, k2, k3, k4, k5⟩ := hz.zr m Zm hm hzm b hb
  exact ⟨Nat.lt_of_lt_of_le k1 hK.size, k2, k3, fun ⟨id, o, h1, _⟩ => h1 rfl, k5⟩, fun b ⟨id, o, h1, _⟩ => absurd rfl h1⟩
 exact hE.keep.trans (hK.mono fun _ _ h => h.elim)
end Go.Tm
end
section
namespace Go.Tm
open Go.RowKit Go.WideShapes
mutual
def unfE : D -> D
 | .imm s l c => .imm s l (c % 8)
 | .iptr _ l => .iptr 0 l
 | .agg l => .agg (unfEL l)
 | .tuple l => .tuple (unfEL l)
 | .iface t d => .iface t (unfE d)
 | .fn f l => .fn f (unfEL l)
 | .when c d => .when c (unfE d)
 | d => d
def unfEL : List D -> List D
 | [] => []
 | d :: ds => unfE d :: unfEL ds
end
mutual
theorem znl {C : Cx} {q : Nat -> Bool} {Zt : Nat -> Prop} (hq : ∀ m, q m = true -> ∃ Z, C.zone m = some Z /\ ∀ b, ¬ C.M b -> Z b -> b < C.w.heap.size -> Zt b) : ∀ (d : D) (v : Value), okM q d = true -> d.ids = [] -> rep C d v -> rep (C.at Zt) (unfE d) v
 | .bool b, v, _, _, h => by simpa only [rep, unfE] using h
 | .int k n, v, _, _, h => by simpa only [rep, unfE] using h
 | .str l, v, _, _, h => by simpa only [rep, unfE] using h
 | .agg l, v, hk, hi, h => by
  simp only [rep, unfE, okM, D.ids] at h hk hi ⊢
  obtain ⟨cs, rfl, h⟩ := h
  exact ⟨cs, rfl, zmd hq l cs hk hi h⟩
 | .imm s l c, v, hk, _, h => by
  simp only [rep, unfE, okM, Bool.or_eq_true, List.isEmpty_iff] at h hk ⊢
  obtain ⟨a, cap, rfl, h1, h2, h3, h4, h5, h6, hfl, h7⟩ := h
  have hm : c % 8 % 8 = c % 8 := by omega
  have hm0 : c % 8 / 8 = 0 := by omega
  rw [hm, hm0]
  refine ⟨a, cap, rfl, h1, h2, h3, h4, h5, h6, fun h => absurd h (by omega), ?_⟩
  rcases h7 with h7 | h7
  exact .inl h7
  rcases hk with hk | hk
  obtain ⟨Z, hZ, hb⟩ := hq _ hk
  obtain ⟨a0, ha, hs, hM, hlo, hlt, he⟩ := h7 Z hZ
  right
  intro Z' hZ'
  have : Z' = Zt := by simpa [Cx.zone, Cx.at] using hZ'.symm
  subst this
  exact ⟨a0, ha, hs, hM, hb _ hM hlo hlt.1, hlt, zfp (C := C.at Z) (C' := (C.at Z').at Z') (Cx.Le.inner (C := C) (C' := C) (fun _ _ => rfl) fun b g1 g2 g3 => ⟨g1, hb b g1 g2 g3, rfl⟩) _ _ _ _ rfl he⟩
  exact .inl hk
 | .ref id s off len oc, v, _, hi, h => by simp [D.ids] at hi
 | .ptr id off, v, _, hi, h => by simp [D.ids] at hi
 | .eptr id s i off, v, _, hi, h => by simp [D.ids] at hi
 | .iptr m l, v, hk, _, h => by
  simp only [rep, unfE, okM] at h hk ⊢
  obtain ⟨a0, rfl, hs, hfl, h7⟩ := h
  refine ⟨a0, rfl, hs, fun h => absurd h (by omega), ?_⟩
  rcases h7 with h7 | h7
  exact .inl h7
  obtain ⟨Z, hZ, hb⟩ := hq _ hk
  obtain ⟨hM, hlo, hlt, he⟩ := h7 Z hZ
  right
  intro Z' hZ'
  have : Z' = Zt := by simpa [Cx.zone, Cx.at] using hZ'.symm
  subst this
  exact ⟨hM, hb _ hM hlo hlt, hlt, zor (C := C.at Z) (C' := (C.at Z').at Z') (Cx.Le.inner (C := C) (C' := C) (fun _ _ => rfl) fun b g1 g2 g3 => ⟨g1, hb b g1 g2 g3, rfl⟩) _ _ _ rfl he⟩
 | .nilptr, v, _, _, h => by simpa only [rep, unfE] using h
 | .tuple l, v, hk, hi, h => by
  simp only [rep, unfE, okM, D.ids] at h hk hi ⊢
  obtain ⟨cs, rfl, h⟩ := h
  exact ⟨cs, rfl, zmd hq l cs hk hi h⟩
 | .fn f l, v, hk, hi, h => by
  simp only [rep, unfE, okM, D.ids] at h hk hi ⊢
  obtain ⟨cs, rfl, h⟩ := h
  exact ⟨cs, rfl, zmd hq l cs hk hi h⟩
 | .nilfn, v, _, _, h => by simpa only [rep, unfE] using h
 | .iface t d, v, hk, hi, h => by
  simp only [rep, unfE, okM, D.ids] at h hk hi ⊢
  obtain ⟨x, rfl, h⟩ := h
  exact ⟨x, rfl, znl hq d x hk hi h⟩
 | .nilIface, v, _, _, h => by simpa only [rep, unfE] using h
 | .mref id, v, _, hi, h => by simp [D.ids] at hi
 | .nilmap, v, _, _, h => by simpa only [rep, unfE] using h
 | .sc, v, _, _, h => by simpa only [rep, unfE] using h
 | .when c d, v, hk, hi, h => by
  simp only [rep, unfE, okM, D.ids] at h hk hi ⊢
  exact ⟨fun hc => znl hq d v hk hi (h.1 hc), h.2⟩
 | .undef, v, _, _, _ => by simp only [rep, unfE]
theorem zmd {C : Cx} {q : Nat -> Bool} {Zt : Nat -> Prop} (hq : ∀ m, q m = true -> ∃ Z, C.zone m = some Z /\ ∀ b, ¬ C.M b -> Z b -> b < C.w.heap.size -> Zt b) : ∀ (l : List D) (vs : List Value), okML q l = true -> D.idsL l = [] -> reps C l vs -> reps (C.at Zt) (unfEL l) vs
 | [], vs, _, _, h => by simpa only [reps, unfEL] using h
 | d :: ds, vs, hk, hi, h => by
  simp only [reps, unfEL, okML, Bool.and_eq_true, D.idsL, List.append_eq_nil_iff] at h hk hi ⊢
  obtain ⟨v, vs', rfl, h1, h2⟩ := h
  exact ⟨v, vs', rfl, znl hq d v hk.1 hi.1 h1, zmd hq ds vs' hk.2 hi.2 h2⟩
end
theorem zp0 : ∀ (l : List D), (unfEL l).length = l.length
 | [] => rfl
 | d :: ds => by simp only [unfEL, List.length_cons, zp0 ds]
theorem zqu {C : Cx} {q : Nat -> Bool} {Zt : Nat -> Prop} (hq : ∀ m, q m = true -> ∃ Z, C.zone m = some Z /\ ∀ b, ¬ C.M b -> Z b -> b < C.w.heap.size -> Zt b) : ∀ (l : List D) (b o s : Nat), okML q l = true -> D.idsL l = [] -> elems C l b o s -> elems (C.at Zt) (unfEL l) b o s
 | [], _, _, _, _, _, _ => by simp only [unfEL, elems]
 | d :: ds, b, o, s, hk, hi, h => by
  simp only [elems, unfEL, okML, Bool.and_eq_true, D.idsL, List.append_eq_nil_iff] at h hk hi ⊢
  obtain ⟨⟨v, h1, h2, h3, h4⟩, h5⟩ := h
  exact ⟨⟨v, znl hq d v hk.1 hi.1 h1, h2, h3, h4⟩, zqu hq ds b (o + s) s hk.2 hi.2 h5⟩
mutual
def frzE (hp : Nat -> Option Blk) : D -> D × Bool
 | .ref id s off len _ => match hp id with
  | some (.arr _ s' p items) => (.imm s (unfEL ((items.drop off).take len)) 13, Nat.beq s s' && Nat.ble (off + len) items.length && p && okML new1 ((items.drop off).take len) && (D.idsL ((items.drop off).take len)).isEmpty)
  | _ => (.undef, false)
 | .imm s l c => (.imm s l c, new1 (c / 8) || l.isEmpty)
 | .agg l => (.agg (zk9 hp l).1, (zk9 hp l).2)
 | .tuple l => (.tuple (zk9 hp l).1, (zk9 hp l).2)
 | .iface t d => (.iface t (frzE hp d).1, (frzE hp d).2)
 | .bool b => (.bool b, true)
 | .int k n => (.int k n, true)
 | .str l => (.str l, true)
 | .nilptr => (.nilptr, true)
 | .nilfn => (.nilfn, true)
 | .nilIface => (.nilIface, true)
 | .nilmap => (.nilmap, true)
 | _ => (.undef, false)
def zk9 (hp : Nat -> Option Blk) : List D -> List D × Bool
 | [] => ([], true)
 | d :: ds => ((frzE hp d).1 :: (zk9 hp ds).1, (frzE hp d).2 && (zk9 hp ds).2)
end
mutual
theorem zvg {fr : Nat} {w : World} {g : Gh} {hp : Nat -> Option Blk} (hd : ∀ id blk, hp id = some blk -> holds (cx w g hp) id blk) (hz : g.zn 1 = some fun b => fr <= b) (ho : ∀ b, ownB g hp b -> fr <= b) : ∀ (d : D) (v : Value), rep (cx w g hp) d v -> (frzE hp d).2 = true -> rep (cx0 w fr) (frzE hp d).1 v
 | .ref id s off len oc, v, h, hp' => by
  simp only [frzE] at hp' ⊢
  split at hp'
  rename_i e s' p items hb
  simp only [Bool.and_eq_true, List.isEmpty_iff] at hp' ⊢
  obtain ⟨⟨⟨⟨h1, hl⟩, rfl⟩, hk⟩, hi⟩ := hp'
  obtain rfl := nb h1
  have hl := lb hl
  simp only [rep] at h
  obtain ⟨_, ad, cap, rfl, h1, h2, h3, _, h4⟩ := h
  have hlen : (unfEL ((items.drop off).take len)).length = len := by rw [zp0]; simp; omega
  simp only [rep]
  refine ⟨ad, cap, by rw [hlen], by omega, h2, by simp, by simp, by simp, h3, fun _ => rfl, ?_⟩
  by_cases hz0 : len = 0
  left; subst hz0; simp [unfEL]
  right
  rcases h4 with h4 | ⟨b, T, nn, hσ, rfl, hsh, hn⟩
  omega
  rcases hd id _ hb with ⟨rfl, _⟩ | ⟨b', cs, hσ', hblk, hsz, hel⟩
  simp at hl; omega
  have e := hσ'.symm.trans hσ
  simp only [Option.some.injEq, Prod.mk.injEq] at e
  obtain ⟨rfl, _⟩ := e
  intro Z' hZ'
  have hZ' : (fun b => fr <= b) = Z' := by simpa [Cx.zone, cx0] using hZ'
  subst hZ'
  refine ⟨_, rfl, rfl, fun h => h, ho _ ⟨id, 0, by rw [hb]; simp, hσ⟩, ⟨(Array.getElem?_eq_some_iff.1 hblk).1, fun _ => ⟨cs, _, hblk⟩⟩, ?_⟩
  have he := zga _ len _ _ _ (zhe _ off _ _ _ hel)
  have he2 := zqu (C := { cx w g hp with rf := !true }) (q := new1) (Zt := fun b => fr <= b) (fun m hm => ⟨fun b => fr <= b, by
   obtain rfl : m = 1 := nb hm
   simpa [Cx.zone, cx] using hz, fun b _ hb _ => hb⟩) _ _ _ _ hk hi he
  rw [Nat.zero_add] at he2
  exact zfp (C := (cx w g hp).at fun b => fr <= b) zny _ _ _ _ rfl he2
  cases hp'
 | .imm s l c, v, h, hp' => by
  simp only [frzE, Bool.or_eq_true, List.isEmpty_iff] at hp' ⊢
  simp only [rep] at h ⊢
  obtain ⟨a, cap, rfl, h1, h2, h3, h4, h5, h6, hfl, h7⟩ := h
  refine ⟨a, cap, rfl, h1, h2, h3, h4, h5, h6, fun _ => rfl, ?_⟩
  rcases h7 with h7 | h7
  exact .inl h7
  rcases hp' with hk | hk
  right
  intro Z' hZ'
  have hc : c / 8 = 1 := nb hk
  rw [hc] at hZ'
  have hZ' : (fun b => fr <= b) = Z' := by simpa [Cx.zone, cx0] using hZ'
  subst hZ'
  obtain ⟨a0, ha, hs, hM, hlo, hb, he⟩ := h7 (fun b => fr <= b) (by rw [hc]; simpa [Cx.zone, cx] using hz)
  exact ⟨a0, ha, hs, fun h => h, hlo, hb, zfp (C := (cx w g hp).at fun b => fr <= b) zny _ _ _ _ rfl he⟩
  exact .inl hk
 | .agg l, v, h, hp' => by
  simp only [frzE] at hp' ⊢
  simp only [rep] at h ⊢
  obtain ⟨cs, rfl, h⟩ := h
  exact ⟨cs, rfl, zsv hd hz ho l cs h hp'⟩
 | .tuple l, v, h, hp' => by
  simp only [frzE] at hp' ⊢
  simp only [rep] at h ⊢
  obtain ⟨cs, rfl, h⟩ := h
  exact ⟨cs, rfl, zsv hd hz ho l cs h hp'⟩
 | .iface t d, v, h, hp' => by
  simp only [frzE] at hp' ⊢
  simp only [rep] at h ⊢
  obtain ⟨x, rfl, h⟩ := h
  exact ⟨x, rfl, zvg hd hz ho d x h hp'⟩
 | .bool b, v, h, _ => by simpa only [frzE, rep] using h
 | .int k n, v, h, _ => by simpa only [frzE, rep] using h
 | .str l, v, h, _ => by simpa only [frzE, rep] using h
 | .nilptr, v, h, _ => by simpa only [frzE, rep] using h
 | .nilfn, v, h, _ => by simpa only [frzE, rep] using h
 | .nilIface, v, h, _ => by simpa only [frzE, rep] using h
 | .nilmap, v, h, _ => by simpa only [frzE, rep] using h
 | .ptr _ _, _, _, hp' | .eptr _ _ _ _, _, _, hp' | .iptr _ _, _, _, hp' | .fn _ _, _, _, hp' | .mref _, _, _, hp' | .when _ _, _, _, hp' | .sc, _, _, hp' | .undef, _, _, hp' => by simp [frzE] at hp'
theorem zsv {fr : Nat} {w : World} {g : Gh} {hp : Nat -> Option Blk} (hd : ∀ id blk, hp id = some blk -> holds (cx w g hp) id blk) (hz : g.zn 1 = some fun b => fr <= b) (ho : ∀ b, ownB g hp b -> fr <= b) : ∀ (l : List D) (vs : List Value), reps (cx w g hp) l vs -> (zk9 hp l).2 = true -> reps (cx0 w fr) (zk9 hp l).1 vs
 | [], vs, h, _ => by simp only [reps, zk9] at h ⊢; exact h
 | d :: ds, vs, h, hp' => by
  simp only [zk9, Bool.and_eq_true] at hp' ⊢
  simp only [reps] at h ⊢
  obtain ⟨v, vs', rfl, h1, h2⟩ := h
  exact ⟨v, vs', rfl, zvg hd hz ho d v h1 hp'.1, zsv hd hz ho ds vs' h2 hp'.2⟩
end
mutual
theorem zsj {hp : Nat -> Option Blk} : ∀ d : D, (frzE hp d).2 = true -> okM new1 (frzE hp d).1 = true
 | .ref id s off len oc, h => by
  simp only [frzE] at h ⊢
  split at h
  simp [okM, new1]
  cases h
 | .imm s l c, h => by simpa only [frzE, okM] using h
 | .agg l, h => by
  simp only [frzE] at h ⊢
  simp only [okM]; exact zqe l h
 | .tuple l, h => by
  simp only [frzE] at h ⊢
  simp only [okM]; exact zqe l h
 | .iface t d, h => by
  simp only [frzE] at h ⊢
  simp only [okM]; exact zsj d h
 | .bool _, _ | .int _ _, _ | .str _, _ | .nilptr, _ | .nilfn, _ | .nilIface, _ | .nilmap, _ => by simp only [frzE, okM]
 | .ptr _ _, h | .eptr _ _ _ _, h | .iptr _ _, h | .fn _ _, h | .mref _, h | .when _ _, h | .sc, h | .undef, h => by simp [frzE] at h
theorem zqe {hp : Nat -> Option Blk} : ∀ l : List D, (zk9 hp l).2 = true -> okML new1 (zk9 hp l).1 = true
 | [], _ => by simp only [zk9, okML]
 | d :: ds, h => by
  simp only [zk9, Bool.and_eq_true] at h
  simp only [zk9, okML, zsj d h.1, zqe ds h.2, Bool.and_self]
end
theorem zs2 {P : Program} {K : FuncId} {args : List D} {r r' : D} {eff : List (Nat × Option Blk)} {nw : Nat × Nat} (hr : frzE (effH (fun _ => none) eff) r = (r', true)) (h : zd1 P K args [] r eff nw) : zb7 P K args r' := by
 refine ⟨h.1, fun w vs hvs => ?_⟩
 let g : Gh := ⟨fun _ => none, fun _ => True, fun m => if m = 1 then some (fun x => w.heap.size <= x) else if m = 2 then some (fun x => x < w.heap.size) else none⟩
 have hM : Mem w.heap.size w g (fun _ => none) (fun _ => true) := by
  refine ⟨(fun id blk h => by cases h), fun id id' b o o' h => absurd rfl h, fun id _ => ⟨rfl, rfl⟩, ⟨fun _ _ => trivial, ⟨_, rfl, fun x hx => ⟨hx, trivial⟩, fun x hx => hx⟩, ⟨_, rfl, fun x hx => ⟨hx, trivial⟩⟩, ?_, fun b hb => by obtain ⟨id, o, h1, _⟩ := hb; exact absurd rfl h1⟩, Nat.le_refl _⟩
  intro m Zm hm hz
  have : g.zn m = none := by
   simp only [g]
   rw [if_neg (by omega), if_neg (by omega)]
  rw [this] at hz; cases hz
 have hle : Cx.Le (cx0 w w.heap.size) (cx w g fun _ => none) := by
  refine ⟨fun m _ Z' hZ' => ⟨Z', hZ', fun b _ k2 k3 => ⟨?_, k2, .refl k3⟩⟩, fun _ _ => rfl, fun _ => rfl, (fun x => by cases x), (fun x => by cases x)⟩
  rintro ⟨id, o, h1, _⟩
  exact h1 rfl
 refine (h.2 w.heap.size w g (fun _ => none) (fun _ => true) vs hM (fun id b h => by cases h) (fun _ _ _ => rfl) (zgb hle _ _ hvs)).mono ?_
 rintro ee w' ⟨v, g', he, ha⟩
 have h1 : r' = (frzE (effH (fun _ => none) eff) r).1 := by rw [hr]
 have h2 : (frzE (effH (fun _ => none) eff) r).2 = true := by rw [hr]
 refine ⟨v, he, ha.keep.mono ?_, by rw [h1]; exact zsj _ h2, ?_⟩
 rintro i _ ⟨id, o, h1, _⟩
 exact h1 rfl
 rw [h1]
 refine zvg ha.mem.hd ?_ (fun b hb => ?_) r v ha.res h2
 rw [ha.gz.2]; rfl
 rcases ha.own b hb with h | ⟨id, o, h, _⟩
 exact h
 exact absurd rfl h
theorem zwm {hp : Nat -> Option Blk} {l l' : List D} (h : zk9 hp l = (l', true)) : frzE hp (.agg l) = (.agg l', true) := by simp only [frzE, h]
theorem ya0x {hp : Nat -> Option Blk} {l l' : List D} (h : zk9 hp l = (l', true)) : frzE hp (.tuple l) = (.tuple l', true) := by simp only [frzE, h]
theorem zqo {hp : Nat -> Option Blk} : zk9 hp [] = ([], true) := rfl
theorem zfd {hp : Nat -> Option Blk} {d d' : D} {l l' : List D} (h : frzE hp d = (d', true)) (hl : zk9 hp l = (l', true)) : zk9 hp (d :: l) = (d' :: l', true) := by
 simp only [zk9, h, hl, Bool.and_self]
structure PlE {α : Type} (f g : α -> D) : Prop where
 un : ∀ x, unfE (f x) = g x
 ids : ∀ x, (f x).ids = []
 nw : ∀ x, okM new1 (f x) = true
section
variable {α : Type} {f g : α -> D} (hf : PlE f g)
include hf
theorem PlE.unfEL (l : List α) : Tm.unfEL (l.map f) = l.map g := by
 induction l with
 | nil => rfl
 | cons x l ih => simp only [List.map_cons, Tm.unfEL, hf.un, ih]
theorem PlE.idsL (l : List α) : D.idsL (l.map f) = [] := by
 induction l with
 | nil => rfl
 | cons x l ih => simp only [List.map_cons, D.idsL, hf.ids, ih, List.nil_append]
theorem PlE.okNw (l : List α) : Tm.okML new1 (l.map f) = true := by
 induction l with
 | nil => rfl
 | cons x l ih => simp only [List.map_cons, Tm.okML, hf.nw, ih, Bool.and_self]
theorem zi8 {hp : Nat -> Option Blk} {id s e n : Nat} {oc : Option Nat} {l : List α} (h : hp id = some (.arr e s true (l.map f))) (hn : n = l.length) : frzE hp (.ref id s 0 n oc) = (.imm s (l.map g) 13, true) := by
 subst hn
 have ht : (l.map f).take l.length = l.map f := List.take_of_length_le (by simp)
 simp only [frzE, h, List.drop_zero, ht, hf.unfEL, hf.okNw, hf.idsL, List.length_map, Nat.zero_add, Nat.beq_refl, List.isEmpty_nil, Bool.and_true, Bool.true_and, Prod.mk.injEq, true_and]
 exact Nat.ble_eq_true_of_le (Nat.le_refl _)
end
theorem zua {α : Type} {f g : α -> D} (h : ∀ x, Wk (f x) (g x)) {C : Cx} : ∀ (l : List α) (b o s : Nat), elems C (l.map f) b o s -> elems C (l.map g) b o s
 | [], b, o, s, _ => by simp only [List.map_nil, elems]
 | x :: l, b, o, s, hh => by
  simp only [List.map_cons, elems] at hh ⊢
  obtain ⟨⟨v, h1, h2, h3, h4⟩, h5⟩ := hh
  exact ⟨⟨v, h x C v h1, h2, h3, h4⟩, zua h l b (o + s) s h5⟩
theorem Wk.immf {α : Type} {f g : α -> D} (h : ∀ x, Wk (f x) (g x)) (s c : Nat) (l : List α) : Wk (.imm s (l.map f) c) (.imm s (l.map g) c) := fun C v hv => by
 simp only [rep, List.length_map, List.map_eq_nil_iff] at hv ⊢
 obtain ⟨a, cap, rfl, h1, h2, h3, h4, h5, h6, hfl, h7⟩ := hv
 refine ⟨a, cap, rfl, h1, h2, h3, h4, h5, h6, hfl, ?_⟩
 rcases h7 with h7 | h7
 exact .inl h7
 right
 intro Z hZ
 obtain ⟨a0, ha, hs, hM, hlo, hb, he⟩ := h7 Z hZ
 exact ⟨a0, ha, hs, hM, hlo, hb, zua h l _ _ _ he⟩
theorem Wk.imm54 (s : Nat) (l : List D) : Wk (.imm s l 5) (.imm s l 4) := fun C v hv => by
 simp only [rep] at hv ⊢
 obtain ⟨a, cap, rfl, h1, h2, h3, h4, h5, h6, hfl, h7⟩ := hv
 refine ⟨a, cap, rfl, h1, h2, by simp, by simp, by simp, h6, by simp, ?_⟩
 rcases h7 with h7 | h7
 exact .inl h7
 right
 intro Z hZ
 obtain ⟨a0, ha, hs, hM, hlo, hb, he⟩ := h7 Z hZ
 exact ⟨a0, ha, hs, hM, hlo, hb.any (by decide), he⟩
theorem Wk.scI (k : IntKind) (n : Int) : Wk (.int k n) .sc := fun C v hv => by
 simp only [rep] at hv ⊢
 rw [hv.1]; rfl
theorem Wk.scS (l : List UInt8) : Wk (.str l) .sc := fun C v hv => by
 simp only [rep] at hv ⊢
 rw [hv.1]; rfl
end Go.Tm
end
section
namespace Go.Tm
open Go.RowKit Go.WideShapes
def LzV : List (Nat × D) -> Prop
 | [] => True
 | x :: l => Lz x.2 /\ LzV l
theorem LzV.get : ∀ {l : List (Nat × D)}, LzV l -> ∀ t, Lz (getR l t)
 | [], _, t => trivial
 | (i, d) :: l, h, t => by
  have ih := LzV.get h.2 t
  simp only [getR, getL] at ih ⊢
  cases hb : Nat.beq i t
  simpa using ih
  simpa using h.1
def LzHp : List (Nat × Blk) -> Prop
 | [] => True
 | x :: l => LzB x.2 /\ LzHp l
theorem LzHp.get : ∀ {l : List (Nat × Blk)}, LzHp l -> ∀ id blk, getL l id = some blk -> LzB blk
 | [], _, id, blk, h => by cases h
 | (i, d) :: l, h, t, blk, hb => by
  simp only [getL] at hb
  cases hq : Nat.beq i t
  rw [hq] at hb; exact LzHp.get h.2 t blk hb
  rw [hq] at hb; cases hb; exact h.1
theorem OkQ.wf {P : Program} {lim n : Nat} {c : Code} {st : St} {Q : Exit -> St -> Prop} (t : Nat) (d : D) (hd : getR st.vars t = d) (h : Tm.wf d -> OkQ P lim n c st Q) : OkQ P lim n c st Q := by
 intro fr F a w g hF hR
 refine h ?_ fr F a w g hF hR
 have := hR.rd t
 rw [hF.1, hd] at this
 exact zw4 _ _ this
def Fs (x y : Operand) (s1 fo : Nat) (ps : List Nat) (st' : St) : Prop :=
 (∃ l k m, ev (getR st'.vars) x = .imm s1 l 13 /\ ev (getR st'.vars) y = .int k m /\ (0 <= m /\ m < (l.length : Int)) /\ (nth l m.toNat).cells[fo]? = some .sc) /\ (∀ p ∈ ps, getR st'.vars p = .undef) /\ LzV st'.vars /\ LzHp st'.heap
def ixOf (o : Oper) : Option (TypeId × Operand × Operand × Nat) := match o.op, o.dst, o.guard with
 | .indexAddr t x y, some p, none => some (t, x, y, p)
 | _, _, _ => none
def fdOf (o : Oper) : Option (TypeId × Operand × Nat × Nat) := match o.op, o.dst, o.guard with
 | .fieldAddr t x f, some p, none => some (t, x, f, p)
 | _, _, _ => none
def stOf (o : Oper) : Option (TypeId × Operand × Value) := match o.op, o.dst, o.guard with
 | .store t x (.const cv), none, none => some (t, x, cv)
 | _, _, _ => none
theorem zu1 {o : Oper} {t : TypeId} {x y : Operand} {p : Nat} (h : ixOf o = some (t, x, y, p)) : o.op = .indexAddr t x y /\ o.dst = some p /\ o.guard = none := by
 unfold ixOf at h
 split at h
 rename_i h1 h2 h3
 simp only [Option.some.injEq, Prod.mk.injEq] at h
 obtain ⟨rfl, rfl, rfl, rfl⟩ := h
 exact ⟨h1, h2, h3⟩
 cases h
theorem zzn {o : Oper} {t : TypeId} {x : Operand} {f p : Nat} (h : fdOf o = some (t, x, f, p)) : o.op = .fieldAddr t x f /\ o.dst = some p /\ o.guard = none := by
 unfold fdOf at h
 split at h
 rename_i h1 h2 h3
 simp only [Option.some.injEq, Prod.mk.injEq] at h
 obtain ⟨rfl, rfl, rfl, rfl⟩ := h
 exact ⟨h1, h2, h3⟩
 cases h
theorem zte {o : Oper} {t : TypeId} {x : Operand} {cv : Value} (h : stOf o = some (t, x, cv)) : o.op = .store t x (.const cv) /\ o.dst = none /\ o.guard = none := by
 unfold stOf at h
 split at h
 rename_i h1 h2 h3
 simp only [Option.some.injEq, Prod.mk.injEq] at h
 obtain ⟨rfl, rfl, rfl⟩ := h
 exact ⟨h1, h2, h3⟩
 cases h
def sp1 (N : Nat) (ops : Array Oper) : Option (TypeId × Operand × Operand × Nat × TypeId × Value) := match ops.toList.drop N with
 | [o1, o2] => match ixOf o1, stOf o2 with
  | some (t, x, y, p), some (t2, .tmp p', cv) => bif Nat.beq p p' then some (t, x, y, p, t2, cv) else none
  | _, _ => none
 | _ => none
def sp2 (N : Nat) (ops : Array Oper) : Option (TypeId × Operand × Operand × Nat × TypeId × Nat × Nat × TypeId × Value) := match ops.toList.drop N with
 | [o1, o2, o3] => match ixOf o1, fdOf o2, stOf o3 with
  | some (t, x, y, p), some (t3, .tmp p', f, p2), some (t2, .tmp p3, cv) => bif Nat.beq p p' && Nat.beq p2 p3 then some (t, x, y, p, t3, f, p2, t2, cv) else none
  | _, _, _ => none
 | _ => none
theorem ya07 {N : Nat} {ops : Array Oper} {t : TypeId} {x y : Operand} {p : Nat} {t2 : TypeId} {cv : Value} (h : sp1 N ops = some (t, x, y, p, t2, cv)) : ∃ o1 o2, ops.toList = ops.toList.take N ++ [o1, o2] /\ ixOf o1 = some (t, x, y, p) /\ stOf o2 = some (t2, .tmp p, cv) := by
 unfold sp1 at h
 split at h
 rename_i o1 o2 hd
 split at h
 rename_i t' x' y' p1 t2' p' cv' h1 h2
 cases hb : Nat.beq p1 p'
 rw [hb] at h; cases h
 rw [hb] at h
 have := nb hb
 subst this
 simp only [cond_true, Option.some.injEq, Prod.mk.injEq] at h
 obtain ⟨rfl, rfl, rfl, rfl, rfl, rfl⟩ := h
 exact ⟨o1, o2, by rw [<- hd, List.take_append_drop], h1, h2⟩
 cases h
 cases h
theorem ya06 {N : Nat} {ops : Array Oper} {t t3 : TypeId} {x y : Operand} {p f p2 : Nat} {t2 : TypeId} {cv : Value} (h : sp2 N ops = some (t, x, y, p, t3, f, p2, t2, cv)) : ∃ o1 o2 o3, ops.toList = ops.toList.take N ++ [o1, o2, o3] /\ ixOf o1 = some (t, x, y, p) /\ fdOf o2 = some (t3, .tmp p, f, p2) /\ stOf o3 = some (t2, .tmp p2, cv) := by
 unfold sp2 at h
 split at h
 rename_i o1 o2 o3 hd
 split at h
 rename_i t' x' y' p1 t3' p' f' q2 t2' q3 cv' h1 h2 h3
 cases hb : (Nat.beq p1 p' && Nat.beq q2 q3)
 rw [hb] at h; cases h
 rw [hb] at h
 simp only [Bool.and_eq_true] at hb
 have e1 := nb hb.1
 have e2 := nb hb.2
 subst e1 e2
 simp only [cond_true, Option.some.injEq, Prod.mk.injEq] at h
 obtain ⟨rfl, rfl, rfl, rfl, rfl, rfl, rfl, rfl, rfl⟩ := h
 exact ⟨o1, o2, o3, by rw [<- hd, List.take_append_drop], h1, h2, h3⟩
 cases h
 cases h
section
variable {P : Program} {tab : Nat -> TI} {lim n : Nat}
theorem OkQ.fs1 {id : Nat} {ops : Array Oper} {st : St} {Q : Exit -> St -> Prop} (hT : zhv P tab) (V V2 : List Nat) (N : Nat) (t t2 : TypeId) (x y : Operand) (p s1 : Nat) (cv : Value)
  (hpre : WRun P tab true lim ops (ops.toList.take N) ⟨keep V st.vars, st.heap, st.nx⟩ [] fun s' _ => Fs x y s1 0 [p] ⟨keep V2 s'.vars, s'.heap, s'.nx⟩ /\ Q .normal ⟨keep V2 s'.vars, s'.heap, s'.nx⟩)
  (hops : sp1 N ops = some (t, x, y, p, t2, cv)) (hok : zok n ops = true)
  (hk : (tab t).kind = 3) (he : (tab t).esz = s1) (hk2 : (tab t2).kind ≠ 0) (hsz : (tab t2).size = 1) (kx : zc6 x = true) (ky : zc6 y = true) (hcv : cv.cells = #[cv] /\ cv.oneCell' = true /\ scal cv = true) : OkQ P lim n (.region id ops false) st Q := by
 obtain ⟨os, s', hch, ⟨⟨l, k, m, hx, hy, hm, hc⟩, hp, hL, hB⟩, hQ⟩ := hpre
 obtain ⟨o1, o2, h0, h1, h2⟩ := ya07 hops
 obtain ⟨a1, a2, a3⟩ := zu1 h1
 obtain ⟨b1, b2, b3⟩ := zte h2
 exact OkQ.fset hT V V2 _ h0 hok a1 a2 a3 b1 b2 b3 hk he hk2 hsz kx ky hcv ⟨os, s', hch, rfl⟩ hx hy hm hc (hp p (by simp)) hL.get hB.get hQ
theorem OkQ.fs2 {id : Nat} {ops : Array Oper} {st : St} {Q : Exit -> St -> Prop} (hT : zhv P tab) (V V2 : List Nat) (N : Nat) (t t2 t3 : TypeId) (x y : Operand) (p p2 fi fo sz s1 : Nat) (ag : Bool) (cv : Value)
  (hpre : WRun P tab true lim ops (ops.toList.take N) ⟨keep V st.vars, st.heap, st.nx⟩ [] fun s' _ => Fs x y s1 fo [p, p2] ⟨keep V2 s'.vars, s'.heap, s'.nx⟩ /\ Q .normal ⟨keep V2 s'.vars, s'.heap, s'.nx⟩)
  (hops : sp2 N ops = some (t, x, y, p, t3, fi, p2, t2, cv)) (hok : zok n ops = true)
  (hk : (tab t).kind = 3) (he : (tab t).esz = s1) (hk3 : (tab t3).kind = 2) (hfo : (tab t3).offs[fi]? = some (fo, sz, ag)) (hk2 : (tab t2).kind ≠ 0) (hsz : (tab t2).size = 1) (kx : zc6 x = true) (ky : zc6 y = true) (hcv : cv.cells = #[cv] /\ cv.oneCell' = true /\ scal cv = true) : OkQ P lim n (.region id ops false) st Q := by
 obtain ⟨os, s', hch, ⟨⟨l, k, m, hx, hy, hm, hc⟩, hp, hL, hB⟩, hQ⟩ := hpre
 obtain ⟨o1, o2, o3, h0, h1, h2, h3⟩ := ya06 hops
 obtain ⟨a1, a2, a3⟩ := zu1 h1
 obtain ⟨c1, c2, c3⟩ := zzn h2
 obtain ⟨b1, b2, b3⟩ := zte h3
 exact OkQ.fset2 hT V V2 _ h0 hok a1 a2 a3 c1 c2 c3 b1 b2 b3 hk he hk3 hfo hk2 hsz kx ky hcv ⟨os, s', hch, rfl⟩ hx hy hm hc (hp p (by simp)) (hp p2 (by simp)) hL.get hB.get hQ
end
def Zs (x : Operand) (xs : List Operand) (K : FuncId) (args : List D) (nw : Nat × Nat) (lim : Nat) (d : Option Nat) (st' : St) : Prop :=
 opd true (getR st'.vars) x = (.fn (.func K) [], true) /\ opds true (getR st'.vars) xs = (args, true) /\ (st'.nx <= nw.1 /\ nw.2 <= lim) /\ (∀ t, d = some t -> getR st'.vars t = .undef) /\ LzV st'.vars /\ LzHp st'.heap
def zcOf (o : Oper) : Option (Operand × List Operand × Option Nat) := match o.op, o.guard with
 | .call c, none => match c.callee with
  | .value f => some (f, c.args.toList, o.dst)
  | _ => none
 | _, _ => none
theorem zxx {o : Oper} {x : Operand} {xs : List Operand} {d : Option Nat} (h : zcOf o = some (x, xs, d)) : ∃ c, o.op = .call c /\ c.callee = .value x /\ c.args.toList = xs /\ o.guard = none /\ o.dst = d := by
 unfold zcOf at h
 split at h
 rename_i c h1 h2
 split at h
 rename_i f h3
 simp only [Option.some.injEq, Prod.mk.injEq] at h
 obtain ⟨rfl, rfl, rfl⟩ := h
 exact ⟨c, h1, h3, rfl, h2, rfl⟩
 cases h
 cases h
def spz (N : Nat) (ops : Array Oper) : Option (Operand × List Operand × Option Nat) := match ops.toList.drop N with
 | [o] => zcOf o
 | _ => none
theorem ya05 {N : Nat} {ops : Array Oper} {x : Operand} {xs : List Operand} {d : Option Nat} (h : spz N ops = some (x, xs, d)) : ∃ o, ops.toList = ops.toList.take N ++ [o] /\ zcOf o = some (x, xs, d) := by
 unfold spz at h
 split at h
 rename_i o hd
 exact ⟨o, by rw [<- hd, List.take_append_drop], h⟩
 cases h
theorem OkQ.zc {P : Program} {tab : Nat -> TI} {lim n : Nat} {id : Nat} {ops : Array Oper} {st : St} {Q : Exit -> St -> Prop} (hT : zhv P tab) (V VH : List Nat) (N : Nat) {x : Operand} {xs : List Operand} {d : Option Nat} {K : FuncId} {args : List D} {nw : Nat × Nat} (hK : ya19 P K args [] nw)
  (hpre : WRun P tab true lim ops (ops.toList.take N) ⟨keep V st.vars, st.heap, st.nx⟩ [] fun s' _ => Zs x xs K args nw lim d s' /\ Q .normal ⟨s'.vars, zer VH s'.heap, s'.nx⟩)
  (hops : spz N ops = some (x, xs, d)) (hok : zok n ops = true) : OkQ P lim n (.region id ops false) st Q := by
 obtain ⟨os, s', hch, ⟨hf, ha, hn, hd, hL, hB⟩, hQ⟩ := hpre
 obtain ⟨o, h0, h1⟩ := ya05 hops
 obtain ⟨c, a1, a2, a3, a4, a5⟩ := zxx h1
 subst a3 a5
 exact OkQ.zcall hT V _ VH h0 hok a1 a2 a4 ⟨os, s', hch, rfl⟩ hf ha hK (fun id b h => by cases h) hn hd hL.get hB.get (fun id b _ => rfl) hQ
end Go.Tm
end
section
namespace Go.Proofs
open Go.Tm Go.RowKit Go.WideShapes
set_option maxRecDepth 100000
set_option maxHeartbeats 4000000
set_option linter.unusedSimpArgs false
set_option linter.unusedVariables false
attribute [local go_sem] Tryz.f13 zz6
def scL {α : Type} (l : List α) : List D := l.map fun _ => D.sc
theorem zfr {α : Type} (l : List α) : (scL l).length = l.length := List.length_map ..
theorem zmv {α : Type} (l : List α) : LmL (scL l) := LmL.maps (fun _ : α => D.sc) (fun _ => trivial) l
theorem zz2 {α : Type} (l : List α) (i : Nat) (h : i < l.length) : nth (scL l) i = .sc := zbj (fun _ => D.sc) l i h
def TVote.z (_x : TVote) : D := .agg [.sc, .sc, .sc]
theorem zts : PlE TVote.d TVote.d := ⟨fun _ => rfl, fun _ => rfl, fun _ => rfl⟩
theorem TVote.dz (x : TVote) : Wk (TVote.d x) (TVote.z x) := Wk.agg (.cons (Wk.scI _ _) (.cons (Wk.scI _ _) (.cons (Wk.scS _) (.refl _))))
theorem zla (x : TVote) : Lm (TVote.z x) := ⟨trivial, trivial, trivial, trivial⟩
def TPromise.z (_x : TPromise) : D := .agg [.sc, .sc, .sc]
theorem TPromise.dz (x : TPromise) : Wk (TPromise.d x) (TPromise.z x) := Wk.agg (.cons (Wk.scI _ _) (.cons (Wk.scI _ _) (.cons (Wk.scS _) (.refl _))))
theorem zva (x : TPromise) : Lm (TPromise.z x) := ⟨trivial, trivial, trivial, trivial⟩
def TAttempt.z (x : TAttempt) : D := .agg [.sc, .sc, .imm 1 (scL x.Members) 5, .sc, .sc, .imm 3 (x.Promises.map TPromise.z) 5, .imm 1 (scL x.Accepted) 5]
def TAttempt.e (x : TAttempt) : D := .agg [.int .u8 x.Phase, .int .i64 x.Ballot, .imm 1 (x.Members.map (D.int .i64)) 5, .str x.Wish, .str x.Value, .imm 3 (x.Promises.map TPromise.d) 5, .imm 1 (x.Accepted.map (D.int .i64)) 5]
theorem zp8 : PlE TAttempt.n TAttempt.e := ⟨fun _ => rfl, fun _ => rfl, fun _ => by first | rfl | simp [TAttempt.n, okM, okML, new1]⟩
theorem TAttempt.ed (x : TAttempt) : Wk (TAttempt.e x) (TAttempt.d x) := Wk.agg (.cons (.refl _) (.cons (.refl _) (.cons (Wk.imm54 _ _) (.cons (.refl _) (.cons (.refl _) (.cons (Wk.imm54 _ _) (.cons (Wk.imm54 _ _) (.refl _))))))))
theorem TAttempt.ez (x : TAttempt) : Wk (TAttempt.e x) (TAttempt.z x) := Wk.agg (.cons (Wk.scI _ _) (.cons (Wk.scI _ _) (.cons (Wk.immf (fun x => Wk.scI _ x) _ _ _) (.cons (Wk.scS _) (.cons (Wk.scS _) (.cons (Wk.immf TPromise.dz _ _ _) (.cons (Wk.immf (fun x => Wk.scI _ x) _ _ _) (.refl _))))))))
theorem zh9 (x : TAttempt) : Lm (TAttempt.z x) := ⟨trivial, trivial, .inr (zmv _), trivial, trivial, .inr (LmL.maps _ zva _), .inr (zmv _), trivial⟩
def TMail.z (_x : TMail) : D := .agg [.sc, .sc, .sc, .sc, .sc, .sc, .sc, .sc, .sc, .sc]
theorem ztt : PlE TMail.d TMail.d := ⟨fun _ => rfl, fun _ => rfl, fun _ => rfl⟩
theorem TMail.dz (x : TMail) : Wk (TMail.d x) (TMail.z x) := Wk.agg (.cons (Wk.scI _ _) (.cons (Wk.scI _ _) (.cons (Wk.scI _ _) (.cons (Wk.scI _ _) (.cons (Wk.scI _ _) (.cons (Wk.scI _ _) (.cons (Wk.scI _ _) (.cons (Wk.scS _) (.cons (Wk.scI _ _) (.cons (Wk.scI _ _) (.refl _)))))))))))
theorem zlb (x : TMail) : Lm (TMail.z x) := ⟨trivial, trivial, trivial, trivial, trivial, trivial, trivial, trivial, trivial, trivial, trivial⟩
def TChoice.z (_x : TChoice) : D := .agg [.sc, .sc]
theorem zqc : PlE TChoice.d TChoice.d := ⟨fun _ => rfl, fun _ => rfl, fun _ => rfl⟩
theorem TChoice.dz (x : TChoice) : Wk (TChoice.d x) (TChoice.z x) := Wk.agg (.cons (Wk.scI _ _) (.cons (Wk.scS _) (.refl _)))
theorem zj5 (x : TChoice) : Lm (TChoice.z x) := ⟨trivial, trivial, trivial⟩
abbrev zcc (x : TWorld) : Nat × Blk := (50, .box [.imm 1 (scL x.Members) 13, .imm 3 (x.Votes.map TVote.z) 13, .imm 7 (x.Tries.map TAttempt.z) 13, .imm 10 (x.Mail.map TMail.z) 13, .imm 2 (x.Chosen.map TChoice.z) 13])
theorem zdy (x : TWorld) : LzHp [zcc x] := ⟨⟨.inr (zmv _), .inr (LmL.maps _ zla _), .inr (LmL.maps _ zh9 _), .inr (LmL.maps _ zlb _), .inr (LmL.maps _ zj5 _), trivial⟩, trivial⟩
def Tryz.Sp_towncrierlaw09_turn_1 (x : TWorld)  (i1 : Nat) : St := ⟨[(1, .ptr 50 0), (2, .int .i64 (i1 : Int))], [zcc x], 51⟩
def Tryz.Sp_towncrierlaw09_turn_2 (x : TWorld)  (i2 : Nat) : St := ⟨[(1, .ptr 50 0), (3, .int .i64 (i2 : Int))], [zcc x], 51⟩
def Tryz.Sp_towncrierlaw09_turn_3 (x : TWorld) (i2 : Nat) (i3 : Nat) : St := ⟨[(1, .ptr 50 0), (3, .int .i64 (i2 : Int)), (4, .int .i64 (i3 : Int))], [zcc x], 51⟩
def Tryz.Sp_towncrierlaw09_turn_4 (x : TWorld)  (i4 : Nat) : St := ⟨[(1, .ptr 50 0), (5, .int .i64 (i4 : Int))], [zcc x], 51⟩
def Tryz.Sp_towncrierlaw09_turn_5 (x : TWorld)  (i5 : Nat) : St := ⟨[(1, .ptr 50 0), (6, .int .i64 (i5 : Int))], [zcc x], 51⟩
attribute [local go_sem] zcc zfr Tryz.Sp_towncrierlaw09_turn_1 Tryz.Sp_towncrierlaw09_turn_2 Tryz.Sp_towncrierlaw09_turn_3 Tryz.Sp_towncrierlaw09_turn_4 Tryz.Sp_towncrierlaw09_turn_5 TVote.z TPromise.z TAttempt.z TMail.z TChoice.z
theorem zh3 (x : TWorld) : ya19 Tryz.prog 13 [.agg [.imm 1 (scL x.Members) 13, .imm 3 (x.Votes.map TVote.z) 13, .imm 7 (x.Tries.map TAttempt.z) 13, .imm 10 (x.Mail.map TMail.z) 13, .imm 2 (x.Chosen.map TChoice.z) 13]] [] (50, 51) := by
 refine zvr Tryz.func13 rfl (by decide) (lb rfl) rfl ?_
 intro hwf
 refine OkQ.seq ?_
 refine OkQ.of ?_
 refine .pl zS [0] ?_
 refine OkQ.seq ?_
 refine OkQ.seq ?_
 refine OkQ.of ?_
 refine .pl zS [1] ?_
 refine OkQ.block ?_
 refine OkQ.loop (fun i1 : Nat => Tryz.Sp_towncrierlaw09_turn_1 x  i1) (fun i1 => i1 <= x.Votes.length) (fun i1 => x.Votes.length - i1) 0 (.m [1, 2] [50] []) (Nat.zero_le _) ?_
 intro i1 hi1
 simp only [Tryz.Sp_towncrierlaw09_turn_1]
 refine OkQ.seq ?_
 refine OkQ.seq ?_
 refine OkQ.of ?_
 refine .pl zS [1, 2] ?_
 refine OkQ.wf 9 (.imm 3 (x.Votes.map TVote.z) 13) rfl fun hl1 => ?_
 replace hl1 : (x.Votes.length : Int) <= 9223372036854775807 := by simp only [wf, List.length_map, zfr] at hl1; first | exact hl1 | exact hl1.1 | exact hl1.2
 refine OkQ.cond rfl rfl (fun hc1 => ?_) (fun hc1 => ?_)
 ·have h1 : i1 < x.Votes.length := by simpa using hc1
  have hw1 : wr .i64 ((i1 : Int) + 1) = ((i1 + 1 : Nat) : Int) := zbx h1 hl1
  have e1 := zbj TVote.z x.Votes i1 h1
  refine OkQ.skip ?_
  refine OkQ.seq ?_
  refine OkQ.block ?_
  refine OkQ.fs2 Tryz.tmOk [1, 2] [1, 2, 15, 16] 3 23 3 51 (.tmp 15) (.tmp 16) 17 18 0 0 1 3 false (.int .i64 77) ?_ ?k0 ?m0 rfl rfl rfl rfl (fun h => by cases h) rfl rfl rfl ⟨rfl, rfl, rfl⟩
  case k0 => exact rfl
  case m0 => decide +kernel
  refine .rnx 3 trivial ?_ (.inr fun _ _ _ h => h)
  refine .nil ⟨⟨⟨_, _, _, rfl, rfl, ⟨by omega, by rw [List.length_map]; omega⟩, by rw [Int.toNat_natCast, e1]; rfl⟩, fun p hp => ?_, ?_, zdy x⟩, ?_⟩
  simp at hp; rcases hp with rfl | rfl <;> rfl
  exact ⟨trivial, trivial, .inr (LmL.maps _ zla _), trivial, trivial⟩
  refine OkQ.of ?_
  refine .px zS hw1 [1, 2] ?_
  refine ⟨i1 + 1, ?_, h1, by dsimp only; omega⟩
  exact .m [1, 2] [50] []
 ·refine OkQ.exit ?_
  refine OkQ.seq ?_
  refine OkQ.seq ?_
  refine OkQ.of ?_
  refine .pl zS [1] ?_
  refine OkQ.block ?_
  refine OkQ.loop (fun i2 : Nat => Tryz.Sp_towncrierlaw09_turn_2 x  i2) (fun i2 => i2 <= x.Tries.length) (fun i2 => x.Tries.length - i2) 0 (.m [1, 3] [50] []) (Nat.zero_le _) ?_
  intro i2 hi2
  simp only [Tryz.Sp_towncrierlaw09_turn_2]
  refine OkQ.seq ?_
  refine OkQ.seq ?_
  refine OkQ.of ?_
  refine .pl zS [1, 3] ?_
  refine OkQ.wf 21 (.imm 7 (x.Tries.map TAttempt.z) 13) rfl fun hl2 => ?_
  replace hl2 : (x.Tries.length : Int) <= 9223372036854775807 := by simp only [wf, List.length_map, zfr] at hl2; first | exact hl2 | exact hl2.1 | exact hl2.2
  refine OkQ.cond rfl rfl (fun hc2 => ?_) (fun hc2 => ?_)
  ·have h2 : i2 < x.Tries.length := by simpa using hc2
   have hw2 : wr .i64 ((i2 : Int) + 1) = ((i2 + 1 : Nat) : Int) := zbx h2 hl2
   have e2 := zbj TAttempt.z x.Tries i2 h2
   refine OkQ.skip ?_
   refine OkQ.seq ?_
   refine OkQ.block ?_
   refine OkQ.seq ?_
   refine OkQ.seq ?_
   refine OkQ.of ?_
   refine .pl zS [1, 3] ?_
   refine OkQ.block ?_
   refine OkQ.loop (fun i3 : Nat => Tryz.Sp_towncrierlaw09_turn_3 x i2 i3) (fun i3 => i3 <= x.Tries[i2].Members.length) (fun i3 => x.Tries[i2].Members.length - i3) 0 (.m [1, 3, 4] [50] []) (Nat.zero_le _) ?_
   intro i3 hi3
   simp only [Tryz.Sp_towncrierlaw09_turn_3]
   refine OkQ.seq ?_
   refine OkQ.seq ?_
   refine OkQ.of ?_
   refine .px zS e2 [1, 3, 4] ?_
   refine OkQ.wf 32 (.imm 1 (scL x.Tries[i2].Members) 13) rfl fun hl3 => ?_
   replace hl3 : (x.Tries[i2].Members.length : Int) <= 9223372036854775807 := by simp only [wf, List.length_map, zfr] at hl3; first | exact hl3 | exact hl3.1 | exact hl3.2
   refine OkQ.cond rfl rfl (fun hc3 => ?_) (fun hc3 => ?_)
   ·have h3 : i3 < x.Tries[i2].Members.length := by simpa [zfr] using hc3
    have hw3 : wr .i64 ((i3 : Int) + 1) = ((i3 + 1 : Nat) : Int) := zbx h3 hl3
    refine OkQ.skip ?_
    refine OkQ.seq ?_
    refine OkQ.block ?_
    refine OkQ.fs1 Tryz.tmOk [1, 3, 4] [1, 3, 4, 42, 43] 7 22 3 (.tmp 42) (.tmp 43) 44 1 (.int .i64 77) ?_ ?k1 ?m1 rfl rfl (fun h => by cases h) rfl rfl rfl ⟨rfl, rfl, rfl⟩
    case k1 => exact rfl
    case m1 => decide +kernel
    refine .rnx 7 e2 ?_ (.inr fun _ _ _ h => h)
    refine .nil ⟨⟨⟨_, _, _, rfl, rfl, ⟨by omega, by rw [zfr]; omega⟩, by rw [Int.toNat_natCast, zz2 _ _ h3]; rfl⟩, fun p hp => ?_, ?_, zdy x⟩, ?_⟩
    simp at hp; subst hp; rfl
    exact ⟨trivial, trivial, trivial, .inr (zmv _), trivial, trivial⟩
    refine OkQ.of ?_
    refine .px zS hw3 [1, 3, 4] ?_
    refine ⟨i3 + 1, ?_, h3, by dsimp only; omega⟩
    exact .m [1, 3, 4] [50] []
   ·refine OkQ.exit ?_
    refine OkQ.fs2 Tryz.tmOk [1, 3] [1, 3, 46, 47] 3 24 9 49 (.tmp 46) (.tmp 47) 48 49 3 3 1 7 false (.string ⟨#[116, 117, 114, 110, 101, 100]⟩) ?_ ?k2 ?m2 rfl rfl rfl rfl (fun h => by cases h) rfl rfl rfl ⟨rfl, rfl, rfl⟩
    case k2 => exact rfl
    case m2 => decide +kernel
    refine .rnx 3 trivial ?_ (.inr fun _ _ _ h => h)
    refine .nil ⟨⟨⟨_, _, _, rfl, rfl, ⟨by omega, by rw [List.length_map]; omega⟩, by rw [Int.toNat_natCast, e2]; rfl⟩, fun p hp => ?_, ?_, zdy x⟩, ?_⟩
    simp at hp; rcases hp with rfl | rfl <;> rfl
    exact ⟨trivial, trivial, .inr (LmL.maps _ zh9 _), trivial, trivial⟩
    refine OkQ.of ?_
    refine .px zS hw2 [1, 3] ?_
    refine ⟨i2 + 1, ?_, h2, by dsimp only; omega⟩
    exact .m [1, 3] [50] []
  ·refine OkQ.exit ?_
   refine OkQ.seq ?_
   refine OkQ.seq ?_
   refine OkQ.of ?_
   refine .pl zS [1] ?_
   refine OkQ.block ?_
   refine OkQ.loop (fun i4 : Nat => Tryz.Sp_towncrierlaw09_turn_4 x  i4) (fun i4 => i4 <= x.Mail.length) (fun i4 => x.Mail.length - i4) 0 (.m [1, 5] [50] []) (Nat.zero_le _) ?_
   intro i4 hi4
   simp only [Tryz.Sp_towncrierlaw09_turn_4]
   refine OkQ.seq ?_
   refine OkQ.seq ?_
   refine OkQ.of ?_
   refine .pl zS [1, 5] ?_
   refine OkQ.wf 52 (.imm 10 (x.Mail.map TMail.z) 13) rfl fun hl4 => ?_
   replace hl4 : (x.Mail.length : Int) <= 9223372036854775807 := by simp only [wf, List.length_map, zfr] at hl4; first | exact hl4 | exact hl4.1 | exact hl4.2
   refine OkQ.cond rfl rfl (fun hc4 => ?_) (fun hc4 => ?_)
   ·have h4 : i4 < x.Mail.length := by simpa using hc4
    have hw4 : wr .i64 ((i4 : Int) + 1) = ((i4 + 1 : Nat) : Int) := zbx h4 hl4
    have e4 := zbj TMail.z x.Mail i4 h4
    refine OkQ.skip ?_
    refine OkQ.seq ?_
    refine OkQ.block ?_
    refine OkQ.fs2 Tryz.tmOk [1, 5] [1, 5, 58, 59] 3 25 3 43 (.tmp 58) (.tmp 59) 60 61 1 1 1 10 false (.int .i64 77) ?_ ?k3 ?m3 rfl rfl rfl rfl (fun h => by cases h) rfl rfl rfl ⟨rfl, rfl, rfl⟩
    case k3 => exact rfl
    case m3 => decide +kernel
    refine .rnx 3 trivial ?_ (.inr fun _ _ _ h => h)
    refine .nil ⟨⟨⟨_, _, _, rfl, rfl, ⟨by omega, by rw [List.length_map]; omega⟩, by rw [Int.toNat_natCast, e4]; rfl⟩, fun p hp => ?_, ?_, zdy x⟩, ?_⟩
    simp at hp; rcases hp with rfl | rfl <;> rfl
    exact ⟨trivial, trivial, .inr (LmL.maps _ zlb _), trivial, trivial⟩
    refine OkQ.of ?_
    refine .px zS hw4 [1, 5] ?_
    refine ⟨i4 + 1, ?_, h4, by dsimp only; omega⟩
    exact .m [1, 5] [50] []
   ·refine OkQ.exit ?_
    refine OkQ.seq ?_
    refine OkQ.of ?_
    refine .pl zS [1] ?_
    refine OkQ.block ?_
    refine OkQ.loop (fun i5 : Nat => Tryz.Sp_towncrierlaw09_turn_5 x  i5) (fun i5 => i5 <= x.Members.length) (fun i5 => x.Members.length - i5) 0 (.m [1, 6] [50] []) (Nat.zero_le _) ?_
    intro i5 hi5
    simp only [Tryz.Sp_towncrierlaw09_turn_5]
    refine OkQ.seq ?_
    refine OkQ.seq ?_
    refine OkQ.of ?_
    refine .pl zS [1, 6] ?_
    refine OkQ.wf 64 (.imm 1 (scL x.Members) 13) rfl fun hl5 => ?_
    replace hl5 : (x.Members.length : Int) <= 9223372036854775807 := by simp only [wf, List.length_map, zfr] at hl5; first | exact hl5 | exact hl5.1 | exact hl5.2
    refine OkQ.cond rfl rfl (fun hc5 => ?_) (fun hc5 => ?_)
    ·have h5 : i5 < x.Members.length := by simpa [zfr] using hc5
     have hw5 : wr .i64 ((i5 : Int) + 1) = ((i5 + 1 : Nat) : Int) := zbx h5 hl5
     refine OkQ.skip ?_
     refine OkQ.seq ?_
     refine OkQ.block ?_
     refine OkQ.fs1 Tryz.tmOk [1, 6] [1, 6, 70, 71] 3 22 3 (.tmp 70) (.tmp 71) 72 1 (.int .i64 77) ?_ ?k4 ?m4 rfl rfl (fun h => by cases h) rfl rfl rfl ⟨rfl, rfl, rfl⟩
     case k4 => exact rfl
     case m4 => decide +kernel
     refine .rnx 3 trivial ?_ (.inr fun _ _ _ h => h)
     refine .nil ⟨⟨⟨_, _, _, rfl, rfl, ⟨by omega, by rw [zfr]; omega⟩, by rw [Int.toNat_natCast, zz2 _ _ h5]; rfl⟩, fun p hp => ?_, ?_, zdy x⟩, ?_⟩
     simp at hp; subst hp; rfl
     exact ⟨trivial, trivial, .inr (zmv _), trivial, trivial⟩
     refine OkQ.of ?_
     refine .px zS hw5 [1, 6] ?_
     refine ⟨i5 + 1, ?_, h5, by dsimp only; omega⟩
     exact .m [1, 6] [50] []
    refine OkQ.exit ?_
    exact .inl rfl
end Go.Proofs
end

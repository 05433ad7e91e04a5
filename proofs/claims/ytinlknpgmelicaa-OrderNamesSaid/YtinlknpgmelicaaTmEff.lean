/- Operations with an effect: what is kept, what is made. -/
import Derived.Test.YtinlknpgmelicaaTmOps2
import Derived.Deep.AppendSrc
namespace Go.Tm
open Go.RowKit Go.WideShapes

theorem le_rf {C C' : Cx} (h : C.Le C') (hC : C.rf = true) (b b' : Bool) (hb : b = true → b' = true) : ({ C with rf := b } : Cx).Le { C' with rf := b' } :=
  ⟨h.blk, h.shp, h.ff, hb, fun _ => h.sg hC⟩

theorem entsOk_le {C C' : Cx} (h : C.Le C') : ∀ (es : List (D × D)) (ens : List MapEntry), entsOk C es ens → entsOk C' es ens
  | [], ens, hh => by simpa only [entsOk] using hh
  | x :: xs, ens, hh => by
    simp only [entsOk] at hh ⊢
    obtain ⟨e, es', rfl, ⟨h1, h2⟩, h3⟩ := hh
    exact ⟨e, es', rfl, ⟨rep_le h _ _ h1, rep_le h _ _ h2⟩, entsOk_le h xs es' h3⟩

mutual
/-- a datum without references reads as well where none may occur -/
theorem rep_noids {C : Cx} : ∀ (d : D) (v : Value), d.ids = [] → rep C d v → rep C.noref d v
  | .bool b, v, _, h => by simpa only [rep] using h
  | .int k n, v, _, h => by simpa only [rep] using h
  | .str l, v, _, h => by simpa only [rep] using h
  | .agg l, v, hi, h => by
    simp only [rep] at h ⊢
    obtain ⟨cs, rfl, h⟩ := h
    exact ⟨cs, rfl, reps_noids l cs (by simpa only [D.ids] using hi) h⟩
  | .imm s l c, v, _, h => by simp only [rep] at h ⊢; exact h
  | .ref id s off len oc, v, hi, _ => by simp [D.ids] at hi
  | .ptr id off, v, hi, _ => by simp [D.ids] at hi
  | .eptr id s i off, v, hi, _ => by simp [D.ids] at hi
  | .iptr m l, v, _, h => by simp only [rep] at h ⊢; exact h
  | .nilptr, v, _, h => by simpa only [rep] using h
  | .tuple l, v, hi, h => by
    simp only [rep] at h ⊢
    obtain ⟨cs, rfl, h⟩ := h
    exact ⟨cs, rfl, reps_noids l cs (by simpa only [D.ids] using hi) h⟩
  | .fn f l, v, hi, h => by
    simp only [rep] at h ⊢
    obtain ⟨cs, rfl, h⟩ := h
    exact ⟨cs, rfl, reps_noids l cs (by simpa only [D.ids] using hi) h⟩
  | .nilfn, v, _, h => by simpa only [rep] using h
  | .iface t d, v, hi, h => by
    simp only [rep] at h ⊢
    obtain ⟨x, rfl, h⟩ := h
    exact ⟨x, rfl, rep_noids d x (by simpa only [D.ids] using hi) h⟩
  | .nilIface, v, _, h => by simpa only [rep] using h
  | .mref id, v, hi, _ => by simp [D.ids] at hi
  | .nilmap, v, _, h => by simpa only [rep] using h
  | .when c d, v, hi, h => by
    simp only [rep] at h ⊢
    exact ⟨fun hc => rep_noids d v (by simpa only [D.ids] using hi) (h.1 hc), h.2⟩
  | .undef, v, _, _ => by simp only [rep]
theorem reps_noids {C : Cx} : ∀ (l : List D) (vs : List Value), D.idsL l = [] → reps C l vs → reps C.noref l vs
  | [], vs, _, h => by simpa only [reps] using h
  | d :: ds, vs, hi, h => by
    simp only [reps] at h ⊢
    simp only [D.idsL, List.append_eq_nil_iff] at hi
    obtain ⟨v, vs', rfl, h1, h2⟩ := h
    exact ⟨v, vs', rfl, rep_noids d v hi.1 h1, reps_noids ds vs' hi.2 h2⟩
end

/-- a block that is neither written nor moved -/
theorem holds_le {C C' : Cx} {id : Nat} {blk : Blk} (hle : C.Le C') (hC : C.rf = true) (hσ : C'.σ id = C.σ id)
    (hb : ∀ b o, C.σ id = some (b, o) → C'.w.heap[b]? = C.w.heap[b]?) (h : holds C id blk) : holds C' id blk := by
  cases blk with
  | box cells =>
    obtain ⟨b, cs, T, h1, h2, h3, h4⟩ := h
    exact ⟨b, cs, T, by rw [hσ, h1], by rw [hb b 0 h1, h2], reps_le hle _ _ h3, h4⟩
  | arr e s p items =>
    rcases h with ⟨h1, h2⟩ | ⟨b, cs, h1, h2, h3, h4⟩
    · exact .inl ⟨h1, by rw [hσ, h2]⟩
    · exact .inr ⟨b, cs, by rw [hσ, h1], by rw [hb b 0 h1, h2], h3, elems_le (le_rf hle hC _ _ (fun x => x)) _ _ _ _ (hb b 0 h1) h4⟩
  | map es =>
    obtain ⟨b, ens, clock, h1, h2, h3⟩ := h
    exact ⟨b, ens, clock, by rw [hσ, h1], by rw [hb b 0 h1, h2], entsOk_le hle _ _ h3⟩

section
variable {fr : Nat} {w w' : World} {g g' : Gh} {hp hp' : Nat → Option Blk} {nu nu' : Nat → Bool}

/-- the blocks of some ids -/
def blkOf (g : Gh) (hp : Nat → Option Blk) (ch : Nat → Prop) (b : Nat) : Prop := ∃ id o, ch id ∧ hp id ≠ none ∧ g.σ id = some (b, o)

theorem Mem.le {ch : Nat → Prop} (hK : Keep (blkOf g hp ch) w w') (hz : g'.Z = g.Z) (hzn : g'.zn = g.zn) (hs : ∀ id, g.σ id ≠ none → g'.σ id = g.σ id)
    (hown : ∀ b, ownB g' hp' b → w.heap.size ≤ b ∨ ownB g hp b) : Cx.Le (cx w g hp) (cx w' g' hp') := by
  refine ⟨fun m _ Z' hZ' => ⟨Z', ?_, fun b hM hZ hb => ⟨?_, hZ, ?_⟩⟩, fun b hb => hK.shp b hb, id, id, fun _ => hs⟩
  · simp only [Cx.zone, cx, hz, hzn] at hZ' ⊢
    exact hZ'
  · intro hM'
    rcases hown b hM' with h | h
    · have hb : b < w.heap.size := hb
      omega
    · exact hM h
  · refine hK.block b hb ?_
    rintro ⟨id, o, _, h1, h2⟩
    exact hM ⟨id, o, h1, h2⟩

theorem Mem.change (h : Mem fr w g hp nu) {ch : Nat → Prop} (hK : Keep (blkOf g hp ch) w w') (hz : g'.Z = g.Z) (hzn : g'.zn = g.zn) (hs : ∀ id, g.σ id ≠ none ∨ hp id ≠ none ∧ ¬ ch id → g'.σ id = g.σ id)
    (hown : ∀ b, ownB g' hp' b → w.heap.size ≤ b ∨ ownB g hp b)
    (hhd : ∀ id blk, hp' id = some blk → (¬ ch id ∧ hp id = some blk) ∨ holds (cx w' g' hp') id blk)
    (hinj : ∀ id id' b o o', hp' id ≠ none → hp' id' ≠ none → g'.σ id = some (b, o) → g'.σ id' = some (b, o') → id = id')
    (hnw : ∀ id, nu' id = true → g'.σ id = none ∧ hp' id = none) : Mem fr w' g' hp' nu' := by
  have hle : Cx.Le (cx w g hp) (cx w' g' hp') := Mem.le hK hz hzn (fun id h => hs id (.inl h)) hown
  refine ⟨fun id blk hb => ?_, hinj, hnw, ?_, Nat.le_trans h.fl hK.size⟩
  · rcases hhd id blk hb with ⟨h1, h2⟩ | h3
    · refine holds_le (C := cx w g hp) (C' := cx w' g' hp') hle rfl (hs id (.inr ⟨by rw [h2]; simp, h1⟩)) ?_ (h.hd id blk h2)
      intro b o hσ
      refine hK.block b (holds_lt (C := cx w g hp) (h.hd id blk h2) hσ).1 ?_
      rintro ⟨id2, o2, g1, g2, g3⟩
      have := h.inj id id2 b o o2 (by rw [h2]; simp) g2 hσ g3
      subst this
      exact h1 g1
    · exact h3
  · refine ⟨fun b hb => ?_, ?_, ?_, ?_⟩
    · rw [hz]; exact h.zs.z0 b (Nat.le_trans hK.size hb)
    · obtain ⟨Z1, h1, h2, h3⟩ := h.zs.z1
      rw [hz, hzn]
      exact ⟨Z1, h1, h2, fun b hb => h3 b (Nat.le_trans hK.size hb)⟩
    · rw [hz, hzn]; exact h.zs.z2
    · rw [hz, hzn]
      intro m Zm hm hZ b hb
      obtain ⟨h1, h2, h3, h4, h5⟩ := h.zs.zr m Zm hm hZ b hb
      refine ⟨Nat.lt_of_lt_of_le h1 hK.size, h2, h3, ?_, h5⟩
      intro hM
      rcases hown b hM with h | h
      · omega
      · exact h4 h
end

def setσ (g : Gh) (n : Nat) (x : Option (Nat × Nat)) : Gh := { g with σ := fun i => if i = n then x else g.σ i }

def kill : Option Nat → List (Nat × Option Blk)
  | none => []
  | some k => [(k, none)]

theorem beq_ne {a b : Nat} (h : a ≠ b) : Nat.beq a b = false := by
  cases hb : Nat.beq a b
  · rfl
  · exact absurd (Nat.eq_of_beq_eq_true hb) h

theorem effN_one (nu : Nat → Bool) (n id : Nat) : effN nu (n, n + 1) id = true ↔ nu id = true ∧ id ≠ n := by
  unfold effN
  simp
  intro _
  omega

theorem effN_none (nu : Nat → Bool) : effN nu (0, 0) = nu := by
  funext id
  unfold effN
  simp

theorem effH_nil (hp : Nat → Option Blk) : effH hp [] = hp := by
  funext id; simp [effH, getL]

theorem eff_none (F : FrS) : F.eff [] (0, 0) = F := by
  unfold FrS.eff
  rw [effH_nil, effN_none]

section
variable {E : En} {n : Nat} {F : FrS} {a : Act} {w w' : World} {g g' : Gh} (hR : Rel E n F a w g)
include hR

theorem Rel.change {hp' : Nat → Option Blk} {nu' : Nat → Bool} {ch : Nat → Prop} (hK : Keep (blkOf g F.hp ch) w w') (hz : g'.Z = g.Z) (hzn : g'.zn = g.zn) (hs : ∀ id, g.σ id ≠ none ∨ F.hp id ≠ none ∧ ¬ ch id → g'.σ id = g.σ id)
    (hown : ∀ b, ownB g' hp' b → w.heap.size ≤ b ∨ ownB g F.hp b)
    (hhd : ∀ id blk, hp' id = some blk → (¬ ch id ∧ F.hp id = some blk) ∨ holds (cx w' g' hp') id blk)
    (hinj : ∀ id id' b o o', hp' id ≠ none → hp' id' ≠ none → g'.σ id = some (b, o) → g'.σ id' = some (b, o') → id = id')
    (hnw : ∀ id, nu' id = true → g'.σ id = none ∧ hp' id = none) (hs2 : ∀ id, F.nu id = false → g'.σ id = g.σ id) (hn2 : ∀ id, nu' id = true → F.nu id = true) : Rel E n ⟨F.rd, hp', nu'⟩ a w' g' := by
  have hle : Cx.Le (cx w g F.hp) (cx w' g' hp') := Mem.le hK hz hzn (fun id h => hs id (.inl h)) hown
  refine ⟨hR.sz, hR.df, fun t => rep_le hle _ _ (hR.rd t), hR.mem.change hK hz hzn hs hown hhd hinj hnw, ?_, ?_, ⟨hz.trans hR.gz.1, hzn.trans hR.gz.2⟩, ?_, fun id h => hR.nu id (hn2 id h)⟩
  · intro id b o h1 h2
    rcases hown b ⟨id, o, h1, h2⟩ with h | ⟨id', o', h3, h4⟩
    · exact .inl (Nat.le_trans hR.keep.size h)
    · exact hR.base id' b o' h3 h4
  · refine hR.keep.trans (hK.mono ?_)
    rintro b hb ⟨id, o, _, h1, h2⟩
    rcases hR.base id b o h1 h2 with h | h
    · exact .inr h
    · exact .inl h
  · intro id h
    rw [hs2 id, hR.gs id h]
    cases hb : F.nu id
    · rfl
    · rw [hR.nu id hb] at h; cases h

/-- a block is made; where it is another's, moved or lengthened, that one is gone -/
theorem Rel.made {m : Nat} {blk : Blk} {loc : Option (Nat × Nat)} {kl : Option Nat} (hn : F.nu m = true) (hK : Keep (blkOf g F.hp fun k => kl = some k) w w')
    (hloc : ∀ b o, loc = some (b, o) → w.heap.size ≤ b ∨ blkOf g F.hp (fun k => kl = some k) b)
    (hblk : ∀ C, C = cx w' (setσ g m loc) (effH F.hp ((m, some blk) :: kill kl)) → Cx.Le (cx w g F.hp) C → C.rf = true → C.σ m = loc → holds C m blk) :
    Rel E n (F.eff ((m, some blk) :: kill kl) (m, m + 1)) a w' (setσ g m loc) ∧ Cx.Le (cx w g F.hp) (cx w' (setσ g m loc) (effH F.hp ((m, some blk) :: kill kl))) := by
  obtain ⟨n1, n2⟩ := hR.mem.nw m hn
  have hp0 : effH F.hp ((m, some blk) :: kill kl) m = some blk := by simp [effH, getL]
  have hp1 : ∀ id, id ≠ m → effH F.hp ((m, some blk) :: kill kl) id ≠ none → F.hp id ≠ none ∧ kl ≠ some id ∧ effH F.hp ((m, some blk) :: kill kl) id = F.hp id := by
    intro id hid h
    have hb : Nat.beq m id = false := beq_ne (fun e => hid e.symm)
    cases kl with
    | none => simp [effH, getL, hb, kill] at h ⊢; exact h
    | some k =>
      by_cases e : k = id
      · subst e; simp [effH, getL, hb, kill] at h
      · have hb' : Nat.beq k id = false := beq_ne e
        simp [effH, getL, hb, hb', kill] at h ⊢
        exact ⟨h, e⟩
  have hσ : ∀ id, id ≠ m → (setσ g m loc).σ id = g.σ id := by
    intro id hid
    simp [setσ, hid]
  have hσ0 : (setσ g m loc).σ m = loc := by simp [setσ]
  have hown : ∀ b, ownB (setσ g m loc) (effH F.hp ((m, some blk) :: kill kl)) b → w.heap.size ≤ b ∨ ownB g F.hp b := by
    rintro b ⟨id, o, h1, h2⟩
    by_cases e : id = m
    · subst e
      rw [hσ0] at h2
      rcases hloc b o h2 with h | ⟨k, o', _, h3, h4⟩
      · exact .inl h
      · exact .inr ⟨k, o', h3, h4⟩
    · rw [hσ id e] at h2
      exact .inr ⟨id, o, (hp1 id e h1).1, h2⟩
  have hs : ∀ id, g.σ id ≠ none ∨ F.hp id ≠ none ∧ ¬ kl = some id → (setσ g m loc).σ id = g.σ id := by
    intro id h
    refine hσ id ?_
    rintro rfl
    rcases h with h | h
    · exact h n1
    · exact h.1 n2
  have hle : Cx.Le (cx w g F.hp) (cx w' (setσ g m loc) (effH F.hp ((m, some blk) :: kill kl))) := Mem.le (g' := setσ g m loc) hK rfl rfl (fun id h => hs id (.inl h)) hown
  have hlt : ∀ id b o, F.hp id ≠ none → g.σ id = some (b, o) → b < w.heap.size := fun id b o h1 h2 => hR.mem.own_lt ⟨id, o, h1, h2⟩
  refine ⟨Rel.change hR (ch := fun k => kl = some k) hK rfl rfl hs hown ?_ ?_ ?_ (fun id h => hσ id (by rintro rfl; rw [hn] at h; cases h)) (fun id h => ((effN_one _ _ _).1 h).1), hle⟩
  · intro id blk' hb
    by_cases e : id = m
    · subst e
      rw [hp0] at hb
      cases hb
      exact .inr (hblk _ rfl hle rfl hσ0)
    · obtain ⟨h1, h2, h3⟩ := hp1 id e (by rw [hb]; simp)
      rw [h3] at hb
      exact .inl ⟨h2, hb⟩
  · intro id id' b o o' h1 h2 h3 h4
    by_cases e : id = m
    · by_cases e' : id' = m
      · rw [e, e']
      · exfalso
        subst e
        rw [hσ0] at h3
        rw [hσ id' e'] at h4
        obtain ⟨g1, g2, _⟩ := hp1 id' e' h2
        have := hlt id' b o' g1 h4
        rcases hloc b o h3 with h | ⟨k, o2, hk, h5, h6⟩
        · omega
        · have := hR.mem.inj id' k b o' o2 g1 h5 h4 h6
          subst this
          exact g2 hk
    · by_cases e' : id' = m
      · exfalso
        subst e'
        rw [hσ0] at h4
        rw [hσ id e] at h3
        obtain ⟨g1, g2, _⟩ := hp1 id e h1
        have := hlt id b o g1 h3
        rcases hloc b o' h4 with h | ⟨k, o2, hk, h5, h6⟩
        · omega
        · have := hR.mem.inj id k b o o2 g1 h5 h3 h6
          subst this
          exact g2 hk
      · rw [hσ id e] at h3
        rw [hσ id' e'] at h4
        exact hR.mem.inj id id' b o o' (hp1 id e h1).1 (hp1 id' e' h2).1 h3 h4
  · intro id h
    obtain ⟨h1, h2⟩ := (effN_one _ _ _).1 h
    obtain ⟨h3, h4⟩ := hR.mem.nw id h1
    refine ⟨by rw [hσ id h2]; exact h3, ?_⟩
    by_cases hh : effH F.hp ((m, some blk) :: kill kl) id = none
    · exact hh
    · exact absurd h4 (hp1 id h2 hh).1

/-- a block is written in place -/
theorem Rel.wrote {id : Nat} {blk : Blk} {b o : Nat} (hl : F.hp id ≠ none) (hs : g.σ id = some (b, o)) (hK : Keep (fun k => k = b) w w')
    (hblk : ∀ C, C = cx w' g (effH F.hp [(id, some blk)]) → Cx.Le (cx w g F.hp) C → C.rf = true → C.σ id = some (b, o) → holds C id blk) : Rel E n (F.eff [(id, some blk)] (0, 0)) a w' g := by
  have hp0 : effH F.hp [(id, some blk)] id = some blk := by simp [effH, getL]
  have hp1 : ∀ x, x ≠ id → effH F.hp [(id, some blk)] x = F.hp x := by
    intro x hx
    have hb : Nat.beq id x = false := beq_ne (fun e => hx e.symm)
    simp [effH, getL, hb]
  have hne : ∀ x, effH F.hp [(id, some blk)] x ≠ none → F.hp x ≠ none := by
    intro x h
    by_cases e : x = id
    · subst e; exact hl
    · rwa [hp1 x e] at h
  have hK' : Keep (blkOf g F.hp fun k => k = id) w w' := hK.mono fun k _ e => by subst e; exact ⟨id, o, rfl, hl, hs⟩
  have hown : ∀ b, ownB g (effH F.hp [(id, some blk)]) b → w.heap.size ≤ b ∨ ownB g F.hp b := by
    rintro b ⟨x, o', h1, h2⟩
    exact .inr ⟨x, o', hne x h1, h2⟩
  have hle : Cx.Le (cx w g F.hp) (cx w' g (effH F.hp [(id, some blk)])) := Mem.le (g' := g) hK' rfl rfl (fun _ _ => rfl) hown
  have : F.eff [(id, some blk)] (0, 0) = ⟨F.rd, effH F.hp [(id, some blk)], F.nu⟩ := by unfold FrS.eff; rw [effN_none]
  rw [this]
  refine Rel.change hR (ch := fun k => k = id) hK' rfl rfl (fun _ _ => rfl) hown ?_ ?_ ?_ (fun _ _ => rfl) (fun _ h => h)
  · intro x blk' hb
    by_cases e : x = id
    · subst e
      rw [hp0] at hb
      cases hb
      exact .inr (hblk _ rfl hle rfl hs)
    · rw [hp1 x e] at hb
      exact .inl ⟨e, hb⟩
  · intro x y b o o' h1 h2 h3 h4
    exact hR.mem.inj x y b o o' (hne x h1) (hne y h2) h3 h4
  · intro x h
    obtain ⟨h1, h2⟩ := hR.mem.nw x h
    refine ⟨h1, ?_⟩
    by_cases e : x = id
    · subst e; exact absurd h2 hl
    · rw [hp1 x e]; exact h2

/-- the world goes on without a change of what was there -/
theorem Rel.ext (hK : Keep (fun _ => False) w w') : Rel E n F a w' g := by
  have := Rel.change hR (g' := g) (hp' := F.hp) (nu' := F.nu) (ch := fun _ => False) (hK.mono fun _ _ h => h.elim) rfl rfl (fun _ _ => rfl) (fun b h => .inr h) (fun id blk h => .inl ⟨fun h => h, h⟩) (fun _ _ _ _ _ h1 h2 h3 h4 => hR.mem.inj _ _ _ _ _ h1 h2 h3 h4) (fun id h => hR.mem.nw id h) (fun _ _ => rfl) (fun _ h => h)
  exact this

omit hR in
theorem Rel.ext_le (hK : Keep (fun _ => False) w w') : Cx.Le (cx w g F.hp) (cx w' g F.hp) :=
  Mem.le (g' := g) (hp' := F.hp) (ch := fun _ => False) (hK.mono fun _ _ h => h.elim) rfl rfl (fun _ _ => rfl) (fun _ h => .inr h)
end

theorem Keep.alloc (X : Nat → Prop) (w : World) (o : Obj) : Keep X w (w.alloc o) :=
  Keep.of_below ((Below.refl _ _).alloc (Nat.le_refl _) o)

/-- what an operation leaves -/
def Leaves (P : Program) (E : En) (n : Nat) (a : Act) (o : Oper) (F' : FrS) (d : D) (w : World) : Prop :=
  ∃ v w' g', ((execOp a.eval o).run P w = .ok (.value v) w' ∨ (execOp a.eval o).run P w = .ok .skip w' ∧ v = undef) ∧ rep (cx w' g' F'.hp) d v ∧ Rel E n F' a w' g'

section
variable {P : Program} {E : En} {n : Nat} {F : FrS} {a : Act} {w : World} {g : Gh} (hR : Rel E n F a w g)
include hR

theorem leaves_quiet {o : Oper} {d : D} (h : Quiet P (cx w g F.hp) a o d w) : Leaves P E n a o (F.eff [] (0, 0)) d w := by
  obtain ⟨v, h1, h2⟩ := h
  rw [eff_none]
  exact ⟨v, w, g, .inl h1, h2, hR⟩

/-- a new variable -/
theorem leaves_box {o : Oper} {t : TypeId} {cells : List D} {cv : Array Value} {id : Nat} (hn : F.nu id = true) (hrun : (execOp a.eval o).run P w = .ok (.value (.pointer (some ⟨w.heap.size, 0, none⟩))) (w.alloc (.cells cv t)))
    (hc : reps (cx w g F.hp) cells cv.toList) (h1 : cv.toList.all (·.oneCell') = true) : Leaves P E n a o (F.eff [(id, some (.box cells))] (id, id + 1)) (.ptr id 0) w := by
  have hK : Keep (fun _ => False) w (w.alloc (.cells cv t)) := Keep.alloc _ _ _
  obtain ⟨h2, h3⟩ := Rel.made hR (m := id) (blk := .box cells) (loc := some (w.heap.size, 0)) (kl := none) hn (hK.mono fun _ _ h => h.elim) (by rintro b o h; cases h; exact .inl (Nat.le_refl _)) (by
    intro C hC hle _ hσ
    refine ⟨w.heap.size, cv, t, hσ, by subst hC; exact heap_alloc_new w _, reps_le hle _ _ hc, h1⟩)
  refine ⟨_, _, _, .inl hrun, ?_, h2⟩
  simp only [rep, cx]
  exact ⟨trivial, w.heap.size, 0, by simp [setσ], rfl⟩

omit hR in
theorem oneD_cell {C : Cx} {d : D} {v : Value} (h : rep C d v) (h1 : oneD d = true) : v.oneCell' = true := by
  cases d <;> simp only [oneD, Bool.false_eq_true] at h1 <;> simp only [rep] at h
  all_goals first
    | (subst h; rfl)
    | (obtain ⟨rfl, _⟩ := h; rfl)
    | (obtain ⟨_, _, rfl, _⟩ := h; rfl)
    | (obtain ⟨_, _, _, rfl, _⟩ := h; rfl)
    | (obtain ⟨_, _, _, _, _, rfl⟩ := h; rfl)
    | (obtain ⟨_, _, _, _, rfl⟩ := h; rfl)
    | (obtain ⟨_, _, _, rfl⟩ := h; rfl)
    | (obtain ⟨_, rfl, _⟩ := h; rfl)

omit hR in
theorem oneD_cells {C : Cx} : ∀ {l : List D} {vs : List Value}, reps C l vs → l.all oneD = true → vs.all (·.oneCell') = true
  | [], vs, h, _ => by simp only [reps] at h; subst h; rfl
  | d :: ds, vs, h, h1 => by
    simp only [reps] at h
    obtain ⟨v, vs', rfl, hd, h⟩ := h
    simp only [List.all_cons, Bool.and_eq_true] at h1 ⊢
    exact ⟨oneD_cell hd h1.1, oneD_cells h h1.2⟩

omit hR in
theorem zeroChk_one : ∀ (l : List D) (vs : List Value), zeroChk l vs = true → vs.all (·.oneCell') = true ∧ D.idsL l = [] := by
  intro l vs h
  fun_induction zeroChk l vs with
  | case1 => exact ⟨rfl, rfl⟩
  | case10 => cases h
  | case2 b ds b' vs ih | case4 ds s vs ih =>
    simp only [Bool.and_eq_true] at h
    obtain ⟨h1, h2⟩ := ih h.2
    exact ⟨by simpa [Value.oneCell'] using h1, by simpa [D.idsL, D.ids] using h2⟩
  | case3 k n ds k' n' vs ih =>
    simp only [Bool.and_eq_true] at h
    obtain ⟨h1, h2⟩ := ih h.2
    exact ⟨by simpa [Value.oneCell'] using h1, by simpa [D.idsL, D.ids] using h2⟩
  | case5 s ds vs ih | case6 ds vs ih | case7 ds vs ih | case8 ds vs ih | case9 ds vs ih =>
    obtain ⟨h1, h2⟩ := ih h
    exact ⟨by simpa [Value.oneCell'] using h1, by simpa [D.idsL, D.ids] using h2⟩

theorem e_alloc {o : Oper} {t : TypeId} {ti : TI} {id : Nat} (hn : F.nu id = true) (ho : o.op = .alloc t) (ht : tiChk P t ti = true) : Leaves P E n a o (F.eff [(id, some (.box ti.zero))] (id, id + 1)) (.ptr id 0) w := by
  obtain ⟨i, d, hi, hd, hs, ⟨z, hz, hzc⟩, _⟩ := tiChk_parts ht
  obtain ⟨h1, h2⟩ := zeroChk_one _ _ hzc
  refine leaves_box hR (t := t) (cv := z.cells) hn ?_ (reps_zero _ _ hzc) h1
  unfold execOp
  simp [ho, Instr.alloc, zeroValue, typeInfo, hi, hz, newVar, newRow]

theorem e_box {o : Oper} {t : TypeId} {x : Operand} {d : D} {id : Nat} (hn : F.nu id = true) (ho : o.op = .box t x) (hx : rep (cx w g F.hp) d (a.eval x)) (h1 : d.cells.all oneD = true)
    (hne : d.cells ≠ []) : Leaves P E n a o (F.eff [(id, some (.box d.cells))] (id, id + 1)) (.ptr id 0) w := by
  have hr := cells_reps hx (cells_size hx hne).symm
  refine leaves_box hR (t := t) (cv := (a.eval x).cells) hn ?_ hr (oneD_cells hr h1)
  unfold execOp
  simp [ho, Instr.box, newVar, newRow]

omit hR in
theorem setRow_keep (w : World) (b : Nat) (old cs : Array Value) (t : TypeId) (fr : Nat × Nat) (hg : w.heap[b]? = some (.cells old t fr)) (hsz : cs.size = old.size) : Keep (fun k => k = b) w (w.setRow b cs) := by
  refine ⟨rfl, rfl, rfl, by simp, fun k _ hk => setRow_other w b k cs hk, fun k _ => ?_⟩
  by_cases e : k = b
  · subst e
    simp [World.shape?, setRow_heap w k old cs t fr hg, hg, hsz]
  · exact shape_of_block (setRow_other w b k cs e)

omit hR in
theorem storeVar_run {t : TypeId} {ti : TI} {v : Value} {b off : Nat} {old : Array Value} {T : TypeId} (ht : tiChk P t ti = true) (hv : v.cells.size = ti.size) (hg : w.heap[b]? = some (.cells old T (0, 0)))
    (hfit : off + ti.size ≤ old.size) (h1 : v.cells.toList.all (·.oneCell') = true) :
    (storeVar t ⟨b, off, none⟩ v).run P w = .ok () (w.setRow b (old.toList.take off ++ v.cells.toList ++ old.toList.drop (off + v.cells.size)).toArray) := by
  obtain ⟨_, hsz⟩ := ti_load (w := w) ht
  have := run_storeCells_at P b off T v.cells.toList 0 old w hg (by simpa [hv] using hfit) (List.all_eq_true.1 h1)
  simp only [Nat.add_zero, Array.length_toList] at this
  simp [storeVar, hsz, hv, this]

theorem e_store_box {o : Oper} {t : TypeId} {ti : TI} {x y : Operand} {id off : Nat} {cs : List D} {d : D} (ho : o.op = .store t x y) (ht : tiChk P t ti = true)
    (hx : rep (cx w g F.hp) (.ptr id off) (a.eval x)) (hy : rep (cx w g F.hp) d (a.eval y)) (hb : F.hp id = some (.box cs)) (hl : d.cells.length = ti.size) (hfit : off + ti.size ≤ cs.length) (h1 : d.cells.all oneD = true)
    (hne : ti.size ≠ 0) : Leaves P E n a o (F.eff [(id, some (.box (splice cs off d.cells)))] (0, 0)) .undef w := by
  simp only [rep] at hx
  obtain ⟨_, b, o', hσ, he⟩ := hx
  obtain ⟨b', cv, T, hσ', hblk, hreps, hone⟩ := hR.mem.hd id _ hb
  have e := hσ'.symm.trans hσ
  simp only [Option.some.injEq, Prod.mk.injEq] at e
  obtain ⟨rfl, rfl⟩ := e
  have hvs : (a.eval y).cells.size = d.cells.length := cells_size hy (by intro e; rw [e] at hl; simp at hl; omega)
  have hvr := cells_reps hy hvs.symm
  have hv1 := oneD_cells hvr h1
  have hcl : cv.size = cs.length := by simpa using reps_length _ _ hreps
  have hst : (storeVar t ⟨b', off, none⟩ (a.eval y)).run P w = .ok () (w.setRow b' (cv.toList.take off ++ (a.eval y).cells.toList ++ cv.toList.drop (off + (a.eval y).cells.size)).toArray) := storeVar_run (P := P) (v := a.eval y) (off := off) ht (by omega) hblk (by omega) hv1
  have hsz : (cv.toList.take off ++ (a.eval y).cells.toList ++ cv.toList.drop (off + (a.eval y).cells.size)).toArray.size = cv.size := by simp; omega
  refine ⟨undef, _, g, .inr ⟨?_, rfl⟩, by simp only [rep], Rel.wrote hR (by rw [hb]; simp) hσ' (setRow_keep w b' cv _ T _ hblk hsz) ?_⟩
  · unfold execOp
    simp only [ho, he, Instr.storeAt, Instr.sureAddr, pure_bind, Sem.run_bind, Nat.zero_add, hst, Result.andThen_ok, Sem.run_pure]
  · intro C hC hle hrf hσC
    refine ⟨b', _, T, hσC, by subst hC; exact setRow_heap w b' cv _ T _ hblk, ?_, ?_⟩
    · have := reps_le hle _ _ (reps_splice (off := off) hreps hvr)
      simpa using this
    · have h4 : ∀ k, (cv.toList.take k).all (·.oneCell') = true := fun k => List.all_eq_true.2 fun z hz => List.all_eq_true.1 hone z (List.mem_of_mem_take hz)
      have h5 : ∀ k, (cv.toList.drop k).all (·.oneCell') = true := fun k => List.all_eq_true.2 fun z hz => List.all_eq_true.1 hone z (List.mem_of_mem_drop hz)
      simp only [List.all_append, h4, h5, hv1, Bool.and_self]
end
end Go.Tm

/- Operations with an effect: append. -/
import Derived.Test.YtinlknpgmelicaaTmEff
namespace Go.Tm
open Go.RowKit Go.WideShapes

/-- the flat cells of read elements -/
theorem elems_flat {C : Cx} : ∀ (l : List D) (b o s : Nat), elems C l b o s → ∃ news : List Value, news.length = l.length * s ∧ C.w.rangeAt b o news ∧ news.all (·.oneCell') = true ∧
    ∀ (w' : World) (b' o' : Nat), w'.rangeAt b' o' news → ∀ C' : Cx, C'.w = w' → C.Le C' → elems C' l b' o' s
  | [], b, o, s, _ => ⟨[], by simp, fun j v hj => by simp at hj, rfl, fun _ _ _ _ _ _ _ => by simp only [elems]⟩
  | d :: ds, b, o, s, h => by
    simp only [elems] at h
    obtain ⟨⟨v, h1, h2, h3, h4⟩, h5⟩ := h
    obtain ⟨news, g1, g2, g3, g4⟩ := elems_flat ds b (o + s) s h5
    refine ⟨v.cells.toList ++ news, by simp [g1, h2, Nat.succ_mul, Nat.add_comm], ?_, by simp only [List.all_append, h3, g3, Bool.and_self], ?_⟩
    · intro j u hj
      rw [List.getElem?_append] at hj
      split at hj
      · exact h4 j u hj
      · rename_i hlt
        have := g2 _ u hj
        simp only [Array.length_toList, h2] at this hlt
        rwa [show o + s + (j - s) = o + j by omega] at this
    · intro w' b' o' hr C' hw hle
      simp only [elems]
      refine ⟨⟨v, rep_le hle d v h1, h2, h3, ?_⟩, g4 w' b' (o' + s) ?_ C' hw hle⟩
      · rw [hw]
        intro j u hj
        refine hr j u ?_
        rw [List.getElem?_append_left (List.getElem?_eq_some_iff.1 hj).1]
        exact hj
      · intro j u hj
        have := hr (s + j) u (by rw [List.getElem?_append_right (by simp [h2])]; simpa [h2] using hj)
        rwa [show o' + (s + j) = o' + s + j by omega] at this

theorem elems_append {C : Cx} : ∀ (l l' : List D) (b o s : Nat), elems C l b o s → elems C l' b (o + l.length * s) s → elems C (l ++ l') b o s
  | [], l', b, o, s, _, h => by simpa using h
  | d :: ds, l', b, o, s, h, h' => by
    simp only [elems] at h
    simp only [List.cons_append, elems]
    refine ⟨h.1, elems_append ds l' b (o + s) s h.2 ?_⟩
    simp only [List.length_cons, Nat.succ_mul] at h'
    rwa [show o + s + ds.length * s = o + (ds.length * s + s) by omega]

theorem mkML_length (m : Nat) : ∀ (l : List D), (mkML m l).length = l.length
  | [] => by simp only [mkML]
  | d :: ds => by simp only [mkML, List.length_cons, mkML_length m ds]
theorem mkZL_length (m : Nat) (l : List D) : (mkZL m l).length = l.length := by
  cases m
  · rfl
  · exact mkML_length _ l
theorem mkZL_eq (m : Nat) : ∀ (l : List D), mkZL m l = l.map (mkZ m)
  | [] => by cases m <;> simp [mkZL, mkML]
  | d :: ds => by
    have := mkZL_eq m ds
    cases m
    · simp only [mkZL] at this ⊢; simp [mkZ]; exact this
    · simp only [mkZL, mkML, List.map_cons] at this ⊢; rw [this]; rfl

/-- elements out of a zone -/
theorem elems_mkZ {C : Cx} {m : Nat} {Z : Nat → Prop} (hz : C.zone m = some Z) (hf : C.fl = true) : ∀ (l : List D) (b o s : Nat), elems (C.at Z) l b o s → elems C.noref (mkZL m l) b o s := by
  intro l
  rw [mkZL_eq]
  induction l with
  | nil => intro b o s _; simp only [List.map_nil, elems]
  | cons d ds ih =>
    intro b o s h
    simp only [elems, List.map_cons] at h ⊢
    obtain ⟨⟨v, h1, h2, h3, h4⟩, h5⟩ := h
    exact ⟨⟨v, rep_mkZ (C := C.noref) hz hf h1, h2, h3, h4⟩, ih _ _ _ h5⟩

/-- what is appended, or copied -/
def SrcV (C : Cx) (esz : Nat) (xs : List D) (p : Bool) (v : Value) : Prop :=
  (∃ ax c, v = .slice ax xs.length c ∧ (xs = [] ∨ ∃ a0 : Addr, ax = some a0 ∧ a0.spot = none ∧ elems { C with rf := !p } xs a0.block a0.off esz)) ∨ (p = true ∧ ∃ l : List UInt8, v = .string ⟨l.toArray⟩ ∧ xs = l.map ub ∧ esz = 1)

/-- where cells lie that read as elements, they read so -/
def Carry (C : Cx) (xs : List D) (s : Nat) (news : List Value) : Prop :=
  ∀ (w' : World) (b' o' : Nat), w'.rangeAt b' o' news → ∀ C' : Cx, C'.w = w' → C.Le C' → elems C' xs b' o' s

theorem rep_ub {C : Cx} (b : UInt8) : rep C (ub b) (.int .u8 (b.toNat : Int)) := by
  simp only [ub, rep]
  have := b.toNat_lt
  refine ⟨trivial, ?_, ?_⟩ <;> simp [IntKind.min, IntKind.max, IntKind.signed, IntKind.bits] <;> omega

theorem carry_bytes {C : Cx} : ∀ (l : List UInt8), Carry C (l.map ub) 1 (l.map fun b => Value.int .u8 (b.toNat : Int))
  | [], w', b', o', h, C', hw, hle => by simp only [List.map_nil, elems]
  | b :: l, w', b', o', h, C', hw, hle => by
    simp only [List.map_cons, elems] at h ⊢
    refine ⟨⟨_, rep_ub b, rfl, rfl, ?_⟩, carry_bytes l w' b' (o' + 1) ?_ C' hw hle⟩
    · rw [hw]
      intro j u hj
      cases j with
      | zero => simp [Value.cells] at hj; subst hj; exact h 0 _ rfl
      | succ j => simp [Value.cells] at hj
    · intro j u hj
      have := h (j + 1) u (by simpa using hj)
      rwa [show o' + (j + 1) = o' + 1 + j by omega] at this

theorem carry_take {C : Cx} {s : Nat} : ∀ (n : Nat) (xs : List D) (b o : Nat), elems C xs b o s → n ≤ xs.length → ∃ news : List Value, news.length = n * s ∧ C.w.rangeAt b o news ∧ news.all (·.oneCell') = true ∧ Carry C (xs.take n) s news := by
  intro n xs b o h hn
  obtain ⟨news, h1, h2, h3, h4⟩ := elems_flat _ _ _ _ (elems_take xs n b o s h)
  exact ⟨news, by rw [h1, List.length_take, Nat.min_eq_left hn], h2, h3, h4⟩

section
variable {P : Program} {C : Cx}

theorem addr_add {a0 : Addr} (h : a0.spot = none) (j : Nat) : a0.add j = ⟨a0.block, a0.off + j, none⟩ := by
  unfold Addr.add; split
  · cases a0; simp_all
  · rfl

theorem SrcV.first {esz : Nat} {xs : List D} {p : Bool} {v : Value} (h : SrcV C esz xs p v) {n : Nat} (hn : n ≤ xs.length) :
    ∃ news : List Value, news.length = n * esz ∧ (Builtin.firstCells esz n v).run P C.w = .ok news.toArray C.w ∧ news.all (·.oneCell') = true ∧ Carry { C with rf := !p } (xs.take n) esz news := by
  rcases h with ⟨ax, c, rfl, h⟩ | ⟨rfl, l, rfl, rfl, rfl⟩
  · rcases h with rfl | ⟨a0, rfl, hs, he⟩
    · have : n = 0 := by simpa using hn
      subst this
      refine ⟨[], by simp, ?_, rfl, fun _ _ _ _ _ _ _ => by simp only [List.take_nil, elems]⟩
      cases ax <;> simp [Builtin.firstCells, loadCells, loadCellsFrom]
    · obtain ⟨news, h1, h2, h3, h4⟩ := carry_take n xs _ _ he hn
      refine ⟨news, h1, ?_, h3, h4⟩
      refine run_firstCells_some C.w esz n a0 xs.length c news h1 ?_
      intro j u hj
      rw [addr_add hs]
      exact h2 j u hj
  · refine ⟨(l.take n).map fun b => Value.int .u8 (b.toNat : Int), by simp at hn ⊢; omega, ?_, ?_, ?_⟩
    · simp only [Builtin.firstCells, Sem.run_pure]
      congr 1
      apply Array.ext'
      simp [ByteArray.data_extract]
    · exact List.all_eq_true.2 fun x hx => by obtain ⟨_, _, rfl⟩ := List.mem_map.1 hx; rfl
    · rw [← List.map_take]
      exact carry_bytes _

theorem SrcV.len {esz : Nat} {xs : List D} {p : Bool} {v : Value} (h : SrcV C esz xs p v) (w' : World) : (Builtin.lenOf v).run P w' = .ok xs.length w' := by
  rcases h with ⟨ax, c, rfl, h⟩ | ⟨_, l, rfl, rfl, rfl⟩
  · rfl
  · simp [Builtin.lenOf, ByteArray.size]

theorem SrcV.src {esz : Nat} {xs : List D} {p : Bool} {v : Value} {tx : TypeId} (h : SrcV C esz xs p v) (ht : (∃ e', P.underlying tx = some (.slice e')) ∨ P.underlying tx = some .string) :
    ∃ news : List Value, Go.Src P esz tx v xs.length news C.w ∧ Carry { C with rf := !p } xs esz news := by
  obtain ⟨news, h1, h2, h3, h4⟩ := h.first (P := P) (Nat.le_refl _)
  rw [List.take_length] at h4
  refine ⟨news, ⟨ht, h.len, h2, ?_, h1, List.all_eq_true.1 h3⟩, h4⟩
  rcases h with ⟨ax, c, rfl, h⟩ | ⟨rfl, l, rfl, rfl, rfl⟩
  · cases ax with
    | none =>
      have : xs = [] := by
        rcases h with h | ⟨a0, h, _⟩
        · exact h
        · cases h
      subst this
      have : news = [] := List.eq_nil_of_length_eq_zero (by simpa using h1)
      subst this
      simp [Builtin.firstCells]
    | some a =>
      rcases h with rfl | ⟨a0, ha, hs, he⟩
      · have : news = [] := List.eq_nil_of_length_eq_zero (by simpa using h1)
        subst this
        simp [Builtin.firstCells, loadCells, loadCellsFrom]
      · cases ha
        obtain ⟨news', g1, g2, g3, g4⟩ := carry_take xs.length xs _ _ he (Nat.le_refl _)
        have e1 := run_firstCells_some (P := P) C.w esz xs.length a xs.length c news' g1 (by intro j u hj; rw [addr_add hs]; exact g2 j u hj)
        rw [h2] at e1
        have e2 : news = news' := by
          injection e1 with e1
          have := congrArg Array.toList e1
          simpa using this
        subst e2
        exact run_firstCells_some (P := P) C.w.drew esz xs.length a xs.length c news g1 (by intro j u hj; rw [addr_add hs]; simpa using g2 j u hj)
  · simp only [Builtin.firstCells, Sem.run_pure, Result.ok.injEq] at h2 ⊢
    exact ⟨h2.1, trivial⟩
end

section
variable {P : Program} {E : En} {n : Nat} {F : FrS} {a : Act} {w : World} {g : Gh} (hR : Rel E n F a w g)
include hR

theorem srcD_ok {esz : Nat} {dx : D} {v : Value} {xs : List D} {p vx : Bool} (rx : rep (cx w g F.hp) dx v) (hm : srcD F.hp esz dx = some (xs, p, vx)) (hv : vx = true) : SrcV (cx w g F.hp) esz xs p v := by
  unfold srcD at hm
  split at hm
  · rename_i s' l c
    cases hm
    simp only [Bool.and_eq_true, Bool.or_eq_true, List.isEmpty_iff] at hv
    obtain ⟨hv1, hv2⟩ := hv
    obtain ⟨Z, hZ⟩ := hR.mem.live (Nat.le_of_ble_eq_true hv2)
    simp only [rep] at rx
    obtain ⟨ad, cap, rfl, _, _, _, _, _, _, _, h⟩ := rx
    refine .inl ⟨ad, cap, by rw [mkZL_length], ?_⟩
    rcases h with rfl | h
    · left; cases c / 8 <;> simp [mkZL, mkML]
    · rcases hv1 with hv1 | rfl
      · obtain rfl := Nat.eq_of_beq_eq_true hv1
        obtain ⟨a0, h1, h2, _, _, _, h3⟩ := h Z hZ
        exact .inr ⟨a0, h1, h2, elems_mkZ hZ rfl _ _ _ _ h3⟩
      · left; cases c / 8 <;> simp [mkZL, mkML]
  · rename_i id s' off len oc
    split at hm
    · rename_i e s'' p' items hb
      cases hm
      simp only [Bool.and_eq_true] at hv
      obtain ⟨⟨hv1, hv2⟩, hl⟩ := hv
      obtain rfl := Nat.eq_of_beq_eq_true hv1
      obtain rfl := Nat.eq_of_beq_eq_true hv2
      have hl := Nat.le_of_ble_eq_true hl
      simp only [rep] at rx
      obtain ⟨_, ad, cap, rfl, h1, h2, h3, _, h4⟩ := rx
      have hlen : ((items.drop off).take len).length = len := by simp; omega
      refine .inl ⟨ad, cap, by rw [hlen], ?_⟩
      by_cases hz : len = 0
      · left; subst hz; simp
      right
      rcases h4 with h4 | ⟨b, T, nn, hσ, rfl, hsh, hn⟩
      · omega
      rcases hR.mem.hd id _ hb with ⟨rfl, _⟩ | ⟨b', cs, hσ', hblk, hsz, hel⟩
      · simp at hl; omega
      have e := hσ'.symm.trans hσ
      simp only [Option.some.injEq, Prod.mk.injEq] at e
      obtain ⟨rfl, _⟩ := e
      refine ⟨_, rfl, rfl, elems_take _ _ _ _ _ ?_⟩
      have := elems_drop _ off _ _ _ hel
      simpa using this
    · cases hm
  · cases hm
    simp only [rep] at rx
    exact .inr ⟨rfl, _, rx.1, rfl, Nat.eq_of_beq_eq_true hv⟩
  · cases hm

omit hR in
theorem rangeAt_prefix {w : World} {b o : Nat} {cs : Array Value} {T : TypeId} {fz : Nat × Nat} (h : w.heap[b]? = some (.cells cs T fz)) (pre l suf : List Value) (hc : cs.toList = pre ++ l ++ suf) (ho : o = pre.length) : w.rangeAt b o l := by
  intro i u hi
  subst ho
  simp only [World.cell?, h]
  have hlt := (List.getElem?_eq_some_iff.1 hi).1
  have : cs.toList[pre.length + i]? = some u := by
    rw [hc, List.append_assoc, List.getElem?_append_right (by omega), Nat.add_sub_cancel_left, List.getElem?_append_left hlt]
    exact hi
  simpa using this

/-- a row that is made anew, of elements that were read -/
theorem leaves_row {o : Oper} {e : TypeId} {id esz ncap : Nat} {its : List D} {p : Bool} {cells rest : List Value} {kl oc : Option Nat} {w1 : World} (hn : F.nu id = true) (hk1 : Keep (fun _ => False) w w1) (hsz1 : w1.heap.size = w.heap.size)
    (hrun : (execOp a.eval o).run P w = .ok (.value (.slice (some ⟨w.heap.size, 0, none⟩) its.length ncap)) (w1.alloc (.cells (cells ++ rest).toArray e)))
    (hrest : cells.length + rest.length = ncap * esz) (hc1 : its.length ≤ ncap) (hc2 : (ncap : Int) ≤ 9223372036854775807) (hoc : ∀ c, oc = some c → ncap = c)
    (hold : Carry { cx w g F.hp with rf := !p } its esz cells) :
    Leaves P E n a o (F.eff ((id, some (.arr e esz p its)) :: kill kl) (id, id + 1)) (.ref id esz 0 its.length oc) w := by
  have hK : Keep (fun _ => False) w (w1.alloc (.cells (cells ++ rest).toArray e)) := hk1.trans (Keep.alloc _ _ _)
  have hblk : (w1.alloc (.cells (cells ++ rest).toArray e)).heap[w.heap.size]? = some (.cells (cells ++ rest).toArray e (0, 0)) := by
    rw [← hsz1]; exact heap_alloc_new w1 _
  obtain ⟨h2, h3⟩ := Rel.made hR (m := id) (blk := .arr e esz p its) (loc := some (w.heap.size, 0)) (kl := kl) hn (hK.mono fun _ _ h => h.elim) (by rintro b o h; cases h; exact .inl (Nat.le_refl _)) (by
    intro C hC hle hrf hσ
    refine .inr ⟨w.heap.size, (cells ++ rest).toArray, hσ, by subst hC; exact hblk, ?_, ?_⟩
    · simp only [List.size_toArray, List.length_append, hrest]
      exact Nat.mul_le_mul_right _ hc1
    · refine hold (w1.alloc (.cells (cells ++ rest).toArray e)) _ _ (rangeAt_prefix hblk [] cells rest (by simp) rfl) _ (by subst hC; rfl) (le_rf hle rfl _ _ (fun x => x)))
  refine ⟨_, _, _, .inl hrun, ?_, h2⟩
  simp only [rep]
  have hsh : (cx (w1.alloc (.cells (cells ++ rest).toArray e)) (setσ g id (some (w.heap.size, 0))) (F.eff ((id, some (.arr e esz p its)) :: kill kl) (id, id + 1)).hp).w.shape? w.heap.size = some (e, ncap * esz) := by
    simp only [cx, World.shape?, hblk, List.size_toArray, List.length_append, hrest]
  exact ⟨rfl, _, _, rfl, hc1, hc2, by simp, ⟨hoc, fun _ => ⟨w.heap.size, e, ncap * esz, by simp [cx, setσ], hsh, by simp⟩⟩, .inr ⟨w.heap.size, e, ncap * esz, by simp [cx, setσ], by simp, hsh, by simp⟩⟩

omit hR in
/-- an append in place -/
theorem run_append_row {t tx ty e : TypeId} {i : TypeInfo} (ht : P.underlying t = some (.slice e)) (hi : P.info? e = some i) {b off sLen sCap : Nat} {x : Value} {m : Nat} {news : List Value} (hs : Go.Src P i.size tx x m news w)
    {cs : Array Value} {T : TypeId} (hblk : w.heap[b]? = some (.cells cs T (0, 0))) (hfit : off + sLen * i.size + news.length ≤ cs.size) (hroom : sLen + m ≤ sCap) :
    (Builtin.append_ #[t, tx] ty #[.slice (some ⟨b, off, none⟩) sLen sCap, x]).run P w = .ok (.slice (some ⟨b, off, none⟩) (sLen + m) sCap) (w.setRow b (cs.toList.take (off + sLen * i.size) ++ news ++ cs.toList.drop (off + sLen * i.size + news.length)).toArray) := by
  have hst := run_storeCells_at P b (off + sLen * i.size) T news 0 cs w hblk (by simpa using hfit) hs.one
  simp only [Nat.add_zero] at hst
  rcases hs.kind with ⟨e', hk⟩ | hk <;> simp [Builtin.append_, run_underlying ht, run_underlying hk, sizeOf, typeInfo, hi, hs.len, hroom, hs.cells, Addr.add_lit, hst]

omit hR in
/-- nothing is appended -/
theorem run_append_none {t tx ty e : TypeId} {i : TypeInfo} (ht : P.underlying t = some (.slice e)) (hi : P.info? e = some i) {base : Option Addr} {sLen sCap : Nat} {x : Value} (hs : Go.Src P i.size tx x 0 [] w) (hroom : sLen ≤ sCap) :
    (Builtin.append_ #[t, tx] ty #[.slice base sLen sCap, x]).run P w = .ok (.slice base sLen sCap) w := by
  rcases hs.kind with ⟨e', hk⟩ | hk <;> cases base <;> simp [Builtin.append_, run_underlying ht, run_underlying hk, sizeOf, typeInfo, hi, hs.len, hroom, hs.cells, storeCells]

/-- an append in place, to all that is there -/
theorem leaves_room {o : Oper} {ti : TI} {e : TypeId} {id k b cap : Nat} {its xs : List D} {p q : Bool} {cs : Array Value} {news : List Value} {oc : Option Nat} {w1 : World} (hn : F.nu id = true)
    (hrun : (execOp a.eval o).run P w = .ok (.value (.slice (some ⟨b, 0, none⟩) (its.length + xs.length) cap)) w1) (hw1 : w1 = w.setRow b (cs.toList.take (its.length * ti.esz) ++ news ++ cs.toList.drop (its.length * ti.esz + news.length)).toArray)
    (hk : F.hp k ≠ none) (hσ : g.σ k = some (b, 0)) (hblk : w.heap[b]? = some (.cells cs e (0, 0))) (hcs : cap * ti.esz ≤ cs.size) (hnl : news.length = xs.length * ti.esz) (hroom : its.length + xs.length ≤ cap) (hcap2 : (cap : Int) ≤ 9223372036854775807)
    (hoc : ∀ c, oc = some c → cap = c) (hfull : oc = none → cap * ti.esz = cs.size) (hele : elems { cx w g F.hp with rf := !p } its b 0 ti.esz) (hnew : Carry { cx w g F.hp with rf := !q } xs ti.esz news) :
    Leaves P E n a o (F.eff ((id, some (.arr e ti.esz (p && q) (its ++ xs))) :: kill (some k)) (id, id + 1)) (.ref id ti.esz 0 (its.length + xs.length) oc) w := by
  subst hw1
  obtain ⟨olds, o1, o2, o3, o4⟩ := elems_flat its _ _ _ hele
  have hfit : its.length * ti.esz + news.length ≤ cs.size := by
    rw [hnl, ← Nat.add_mul]; exact Nat.le_trans (Nat.mul_le_mul_right _ hroom) hcs
  have hszz : (cs.toList.take (its.length * ti.esz) ++ news ++ cs.toList.drop (its.length * ti.esz + news.length)).toArray.size = cs.size := by simp; omega
  have hK : Keep (blkOf g F.hp fun x => some k = some x) w (w.setRow b (cs.toList.take (its.length * ti.esz) ++ news ++ cs.toList.drop (its.length * ti.esz + news.length)).toArray) :=
    (setRow_keep w b cs _ e _ hblk hszz).mono fun x _ ee => by subst ee; exact ⟨k, 0, rfl, hk, hσ⟩
  have hblk' := setRow_heap w b cs (cs.toList.take (its.length * ti.esz) ++ news ++ cs.toList.drop (its.length * ti.esz + news.length)).toArray e _ hblk
  have hold0 : cs.toList.take (its.length * ti.esz) = olds := by
    apply List.ext_getElem?
    intro i
    rw [List.getElem?_take]
    split
    · rename_i hlt
      have hlo : i < olds.length := by rw [o1]; exact hlt
      have := o2 i olds[i] (List.getElem?_eq_getElem hlo)
      simp only [cx, World.cell?, hblk, Nat.zero_add] at this
      rw [List.getElem?_eq_getElem hlo]
      simpa using this
    · rename_i hge
      rw [List.getElem?_eq_none]; rw [o1]; omega
  obtain ⟨h2, h3⟩ := Rel.made hR (m := id) (blk := .arr e ti.esz (p && q) (its ++ xs)) (loc := some (b, 0)) (kl := some k) hn hK (by rintro b' o' h; cases h; exact .inr ⟨k, 0, rfl, hk, hσ⟩) (by
    intro C hC hle hrf hσC
    refine .inr ⟨b, _, hσC, by subst hC; exact hblk', ?_, ?_⟩
    · rw [hszz, List.length_append]; exact Nat.le_trans (Nat.mul_le_mul_right _ hroom) hcs
    · have hCw : C.w = w.setRow b (cs.toList.take (its.length * ti.esz) ++ news ++ cs.toList.drop (its.length * ti.esz + news.length)).toArray := by subst hC; rfl
      refine elems_append _ _ _ _ _ (o4 _ _ _ (rangeAt_prefix hblk' [] olds (news ++ cs.toList.drop (its.length * ti.esz + news.length)) (by rw [hold0]; simp) rfl) _ hCw (le_rf hle rfl _ _ (by cases p <;> cases q <;> simp))) ?_
      refine hnew _ _ _ (rangeAt_prefix hblk' olds news (cs.toList.drop (its.length * ti.esz + news.length)) (by rw [hold0]) ?_) _ hCw (le_rf hle rfl _ _ (by cases p <;> cases q <;> simp))
      rw [Nat.zero_add, o1])
  refine ⟨_, _, _, .inl hrun, ?_, h2⟩
  simp only [rep]
  refine ⟨rfl, _, _, rfl, hroom, hcap2, by simp, ⟨hoc, fun h => ⟨b, e, cs.size, by simp [cx, setσ], ?_, by rw [Nat.zero_mul, Nat.zero_add]; exact hfull h⟩⟩, .inr ⟨b, e, cs.size, by simp [cx, setσ], by simp, ?_, by omega⟩⟩
  all_goals simp only [cx, World.shape?, hblk', hszz]

theorem e_append {o : Oper} {c : Call} {t t' : TypeId} {ti : TI} {s x : Operand} {ds : D} {xs : List D} {q vx : Bool} {id : Nat} {out : Out} (hn : out.nw = (id, id + 1) → F.nu id = true) (ho : o.op = .call c) (hc : c.callee = .builtin .append) (hca : c.args.toList = [s, x]) (hct : c.argTypes.toList = [t, t'])
    (ht : tiChk P t ti = true) (hk : ti.kind = 3) (ht' : (∃ e', P.underlying t' = some (.slice e')) ∨ P.underlying t' = some .string) (hs : rep (cx w g F.hp) ds (a.eval s)) (hx : vx = true → SrcV (cx w g F.hp) ti.esz xs q (a.eval x))
    (h : appendD F.hp id ti.el ti.esz ti.eby ds xs q vx = some out) (hv : out.vc = true) :
    Leaves P E n a o (F.eff out.eff out.nw) out.d w := by
  obtain ⟨e, j, hu, hj, hj1, hj2, hj3, hj4, ⟨z, hz, hzs, _⟩, hel⟩ := ti_slice ht hk
  subst hel
  have e1 : c.args = #[s, x] := by apply Array.ext'; simpa using hca
  have e2 : c.argTypes = #[t, t'] := by apply Array.ext'; simpa using hct
  have hop : ∀ sv, a.eval s = sv → ∀ v' w', (Builtin.append_ #[t, t'] o.type #[sv, a.eval x]).run P w = .ok v' w' → (execOp a.eval o).run P w = .ok (.value v') w' := by
    intro sv h1 v' w' hr
    unfold execOp; simp [ho, resolve, hc, e1, e2, h1, invoke, builtin, hr]
  have hgrow : F.nu id = true → ∀ (base : Option Addr) (its : List D) (p : Bool) (cap : Nat) (kl : Option Nat), a.eval s = .slice base its.length cap → SrcV (cx w g F.hp) ti.esz its p (.slice base its.length cap) → vx = true → cap < its.length + xs.length → (its.length + xs.length) * ti.eby ≤ 140737488355328 →
      Leaves P E n a o (F.eff ((id, some (.arr ti.el ti.esz (p && q) (its ++ xs))) :: kill kl) (id, id + 1)) (.ref id ti.esz 0 (its.length + xs.length) none) w := by
    intro hn base its p cap kl hsv hsrc hvx hlt hb
    have hbd : its.length + xs.length ≤ 140737488355328 := by
      have : (its.length + xs.length) * 1 ≤ (its.length + xs.length) * ti.eby := Nat.mul_le_mul_left _ (by omega)
      omega
    obtain ⟨news, hN, hNc⟩ := (hx hvx).src (P := P) ht'
    obtain ⟨olds, hO, hOc⟩ := hsrc.src (P := P) (.inl ⟨ti.el, hu⟩)
    have hr := hop _ hsv _ _ (run_append_grow_src (P := P) w t t' o.type ti.el j z hu hj hz base its.length cap olds (by rw [hj1]; exact hO.cellsD) _ xs.length news (by rw [hj1]; exact hN) hlt (by omega) (growslice_fits (by omega) (by rw [hj2]; exact hb)))
    have hge := grownCap_ge w (its.length + xs.length) cap ti.el
    have hmx := grownCap_le_maxLen w (its.length + xs.length) cap ti.el (by unfold maxLen; omega)
    unfold maxLen at hmx
    have hlen : (its ++ xs).length = its.length + xs.length := List.length_append
    rw [← hlen]
    refine leaves_row hR (e := ti.el) (esz := ti.esz) (ncap := grownCap w (its.length + xs.length) cap ti.el) (cells := olds ++ news) (rest := (Builtin.zeroCells z.cells (grownCap w (its.length + xs.length) cap ti.el - (its.length + xs.length))).toList) (w1 := w.drew) hn (Keep.refl _ w).drew rfl ?_ ?_ ?_ ?_ ?_ ?_
    · rw [hr, hlen]
      congr 3
      apply Array.ext'
      simp
    · have hz0 : (Builtin.zeroCells z.cells (grownCap w (its.length + xs.length) cap ti.el - (its.length + xs.length))).toList.length = (grownCap w (its.length + xs.length) cap ti.el - (its.length + xs.length)) * ti.esz := by
        rw [← hj1, ← hzs, ← size_zeroCells]; exact Array.length_toList
      rw [List.length_append, hO.newsLen, hN.newsLen, hz0, ← Nat.add_mul, ← Nat.add_mul]
      congr 1; omega
    · omega
    · omega
    · intro c hc; cases hc
    · intro w' b' o' hr' C' hw hle
      refine elems_append _ _ _ _ _ (hOc w' b' o' ?_ C' hw ?_) (hNc w' b' _ ?_ C' hw ?_)
      · intro i u hi
        exact hr' i u (by rw [List.getElem?_append_left (List.getElem?_eq_some_iff.1 hi).1]; exact hi)
      · refine Cx.Le.trans (B := { cx w g F.hp with rf := !(p && q) }) ?_ hle (Nat.le_refl _)
        exact le_rf (Cx.Le.refl _) rfl _ _ (by cases p <;> cases q <;> simp)
      · intro i u hi
        have := hr' (olds.length + i) u (by rw [List.getElem?_append_right (by omega), Nat.add_sub_cancel_left]; exact hi)
        rwa [show o' + (olds.length + i) = o' + its.length * ti.esz + i by rw [hO.newsLen]; omega] at this
      · refine Cx.Le.trans (B := { cx w g F.hp with rf := !(p && q) }) ?_ hle (Nat.le_refl _)
        exact le_rf (Cx.Le.refl _) rfl _ _ (by cases p <;> cases q <;> simp)
  unfold appendD at h
  split at h
  · -- to nothing
    rename_i s' c'
    simp only [rep] at hs
    obtain ⟨ad, cap, hsv, g1, g2, g3, g4, g5, g6, g7, g8⟩ := hs
    split at h
    · cases h
      have hv1 : vx = true := hv
      obtain ⟨news, hN, hNc⟩ := (hx hv1).src (P := P) ht'
      have hnn : news = [] := List.eq_nil_of_length_eq_zero (by simpa using hN.newsLen)
      subst hnn
      have hr := hop _ hsv _ _ (run_append_none (P := P) hu hj (by rw [hj1]; exact hN) (Nat.zero_le _))
      refine leaves_quiet hR ⟨_, hr, ?_⟩
      simp only [rep]
      exact ⟨ad, cap, rfl, g1, g2, g3, g4, g5, g6, g7, .inl trivial⟩
    · rename_i y ys
      cases h
      simp only [Bool.and_eq_true, Bool.or_eq_true, decide_eq_true_eq] at hv
      obtain ⟨⟨hv1, hv2⟩, hv3⟩ := hv
      have hcap : cap = 0 := g5 (by rcases hv2 with h | h; exact .inl (Nat.le_of_ble_eq_true h); exact .inr (Nat.eq_of_beq_eq_true h))
      subst hcap
      have := hgrow (hn rfl) ad [] q 0 none (by simpa using hsv) (.inl ⟨ad, 0, by simp, .inl rfl⟩) hv1 (by simp) (by simpa using hv3)
      simpa [kill] using this
  · rename_i id' s' off len oc
    split at h
    · rename_i e' s'' p items hb
      have hs0 := hs
      simp only [rep] at hs0
      obtain ⟨_, ad, cap, hsv, g1, g2, g3, goc, g4⟩ := hs0
      rw [hsv] at hs
      have hb0 : F.hp id' ≠ none := by rw [hb]; simp
      -- what lies there
      have hrow : s' = ti.esz → s'' = ti.esz → e' = ti.el → (cap = 0) ∨ ∃ b cs, ad = some ⟨b, off * ti.esz, none⟩ ∧ g.σ id' = some (b, 0) ∧ w.heap[b]? = some (.cells cs ti.el (0, 0)) ∧ off * ti.esz + cap * ti.esz ≤ cs.size ∧ elems { cx w g F.hp with rf := !p } items b 0 ti.esz ∧ (oc = none → off * ti.esz + cap * ti.esz = cs.size) := by
        rintro rfl rfl rfl
        rcases g4 with g4 | ⟨b, T, nn, hσ, rfl, hsh, hnn⟩
        · exact .inl g4
        · rcases hR.mem.hd id' _ hb with ⟨rfl, hσ'⟩ | ⟨b', cs, hσ', hblk, hsz, hele⟩
          · rw [hσ] at hσ'; cases hσ'
          · have e := hσ'.symm.trans hσ
            simp only [Option.some.injEq, Prod.mk.injEq] at e
            obtain ⟨rfl, _⟩ := e
            have hblk' : w.heap[b']? = some (.cells cs ti.el (0, 0)) := hblk
            have hshe : (cx w g F.hp).w.shape? b' = some (ti.el, cs.size) := by simp [cx, World.shape?, hblk']
            rw [hsh] at hshe
            simp only [Option.some.injEq, Prod.mk.injEq] at hshe
            refine .inr ⟨b', cs, rfl, hσ', hblk', by rw [← hshe.2]; exact hnn, hele, fun ho => ?_⟩
            obtain ⟨b2, T2, n2, k1, k2, k3⟩ := goc.2 ho
            have e2 := k1.symm.trans hσ
            simp only [Option.some.injEq, Prod.mk.injEq] at e2
            obtain ⟨rfl, _⟩ := e2
            rw [hsh] at k2
            simp only [Option.some.injEq, Prod.mk.injEq] at k2
            rw [← hshe.2, k2.2]; exact k3
      have hsrc : s' = ti.esz → s'' = ti.esz → off + len ≤ items.length → SrcV (cx w g F.hp) ti.esz ((items.drop off).take len) p (.slice ad ((items.drop off).take len).length cap) := by
        intro h1 h2 h3
        have hlen : ((items.drop off).take len).length = len := by simp; omega
        rw [hlen]
        refine srcD_ok hR (esz := ti.esz) (dx := .ref id' s' off len oc) (vx := Nat.beq s' ti.esz && Nat.beq s'' ti.esz && Nat.ble (off + len) items.length) hs ?_ ?_
        · simp only [srcD, hb]
        · simp only [Bool.and_eq_true]
          exact ⟨⟨by rw [h1]; exact Nat.beq_refl _, by rw [h2]; exact Nat.beq_refl _⟩, Nat.ble_eq_true_of_le h3⟩
      -- in place
      have hplace : F.nu id = true → s' = ti.esz → s'' = ti.esz → e' = ti.el → off = 0 → len = items.length → vx = true → len + xs.length ≤ cap → (∀ c, oc = some c → cap = c) →
          Leaves P E n a o (F.eff [(id, some (.arr ti.el ti.esz (p && q) (items ++ xs))), (id', none)] (id, id + 1)) (.ref id ti.esz 0 (len + xs.length) oc) w := by
        intro hn h1 h2 h3 h4 h5 hvx hroom hoc
        obtain ⟨news, hN, hNc⟩ := (hx hvx).src (P := P) ht'
        rcases hrow h1 h2 h3 with hc0 | ⟨b, cs, had, hσ, hblk, hcs, hele, hfull⟩
        · have hx0 : xs = [] := List.eq_nil_of_length_eq_zero (by omega)
          have hi0 : items = [] := List.eq_nil_of_length_eq_zero (by omega)
          subst hx0
          subst hi0
          have hnn : news = [] := List.eq_nil_of_length_eq_zero (by simpa using hN.newsLen)
          subst hnn
          have hr := hop _ hsv _ _ (run_append_none (P := P) hu hj (by rw [hj1]; exact hN) g1)
          cases hoc0 : oc with
          | some c0 =>
            obtain ⟨h2', h3'⟩ := Rel.made hR (m := id) (blk := .arr ti.el ti.esz (p && q) []) (loc := none) (kl := some id') hn ((Keep.refl _ w).mono fun _ _ h => h) (by rintro b o h; cases h) (by
              intro C hC hle hrf hσ
              exact .inl ⟨rfl, hσ⟩)
            refine ⟨_, _, _, .inl hr, ?_, h2'⟩
            simp only [rep]
            exact ⟨rfl, _, _, rfl, by simpa using g1, g2, g3, ⟨fun c h => hoc c (by rw [hoc0]; exact h), (fun h => by cases h)⟩, .inl hc0⟩
          | none =>
            obtain ⟨b, T, nn, hσ, hsh, hnn⟩ := goc.2 hoc0
            rcases hR.mem.hd id' _ hb with ⟨_, hσ'⟩ | ⟨b', cs, hσ', hblk, hsz, hele⟩
            · rw [hσ] at hσ'; cases hσ'
            have e := hσ'.symm.trans hσ
            simp only [Option.some.injEq, Prod.mk.injEq] at e
            obtain ⟨rfl, _⟩ := e
            subst h2 h3
            have hblk0 : w.heap[b']? = some (.cells cs ti.el (0, 0)) := hblk
            obtain ⟨h2', h3'⟩ := Rel.made hR (m := id) (blk := .arr ti.el ti.esz (p && q) []) (loc := some (b', 0)) (kl := some id') hn ((Keep.refl _ w).mono fun _ _ h => h) (by rintro b o h; cases h; exact .inr ⟨id', 0, rfl, hb0, hσ'⟩) (by
              intro C hC hle hrf hσC
              exact .inr ⟨b', cs, hσC, by subst hC; exact hblk0, by simp, by simp only [elems]⟩)
            refine ⟨_, _, _, .inl hr, ?_, h2'⟩
            simp only [rep]
            refine ⟨rfl, _, _, rfl, by simpa using g1, g2, g3, ⟨(fun c h => by cases h), fun _ => ⟨b', T, nn, by simp [cx, setσ], hsh, ?_⟩⟩, .inl hc0⟩
            rw [h4, h1] at hnn; exact hnn
        · subst h4
          simp only [Nat.zero_mul, Nat.zero_add] at had hcs hfull
          subst had
          have hr := hop _ hsv _ _ (run_append_row (P := P) (off := 0) hu hj (by rw [hj1]; exact hN) hblk (by rw [hN.newsLen, hj1, Nat.zero_add, ← Nat.add_mul]; exact Nat.le_trans (Nat.mul_le_mul_right _ hroom) hcs) hroom)
          subst h5
          exact leaves_room hR (ti := ti) (k := id') hn hr (by rw [hj1]; simp only [Nat.zero_add]) hb0 hσ hblk hcs hN.newsLen hroom g2 hoc hfull hele hNc
      cases oc with
      | none =>
        simp only [Option.some.injEq] at h
        subst h
        simp only [Bool.and_eq_true, decide_eq_true_eq] at hv
        obtain ⟨⟨⟨⟨⟨⟨v1, v2⟩, v3⟩, v4⟩, v5⟩, v6⟩, v7⟩ := hv
        have v2 := Nat.eq_of_beq_eq_true v2
        have v3 := Nat.eq_of_beq_eq_true v3
        have v4 := Nat.eq_of_beq_eq_true v4
        have v5 := Nat.eq_of_beq_eq_true v5
        have v6 := Nat.eq_of_beq_eq_true v6
        by_cases hroom : len + xs.length ≤ cap
        · exact hplace (hn rfl) v3 v4 v2 v5 v6 v1 hroom (fun c h => by cases h)
        · have hi : (items.drop off).take len = items := by subst v5 v6; simp
          have := hsrc v3 v4 (by omega)
          rw [hi] at this
          have := hgrow (hn rfl) ad items p cap (some id') (by rw [← v6]; exact hsv) this v1 (by omega) v7
          rw [v6]
          exact this
      | some c0 =>
        have hc0 := goc.1 c0 rfl
        simp only at h
        cases hlt : Nat.blt c0 (len + xs.length)
        · rw [hlt] at h
          simp only [cond_false] at h
          have hge : len + xs.length ≤ c0 := by
            rcases Nat.lt_or_ge c0 (len + xs.length) with h' | h'
            · have : Nat.blt c0 (len + xs.length) = true := Nat.ble_eq_true_of_le h'
              rw [hlt] at this; cases this
            · exact h'
          split at h
          · cases h
            obtain ⟨news, hN, hNc⟩ := (hx hv).src (P := P) ht'
            have hnn : news = [] := List.eq_nil_of_length_eq_zero (by simpa using hN.newsLen)
            subst hnn
            have hr := hop _ hsv _ _ (run_append_none (P := P) hu hj (by rw [hj1]; exact hN) g1)
            rw [eff_none]
            exact ⟨_, _, g, .inl hr, hs, hR⟩
          · cases h
            simp only [Bool.and_eq_true] at hv
            obtain ⟨⟨⟨⟨⟨v1, v2⟩, v3⟩, v4⟩, v5⟩, v6⟩ := hv
            exact hplace (hn rfl) (Nat.eq_of_beq_eq_true v3) (Nat.eq_of_beq_eq_true v4) (Nat.eq_of_beq_eq_true v2) (Nat.eq_of_beq_eq_true v5) (Nat.eq_of_beq_eq_true v6) v1 (by omega) goc.1
        · rw [hlt] at h
          simp only [cond_true, Option.some.injEq] at h
          subst h
          have hlt' : c0 < len + xs.length := Nat.le_of_ble_eq_true hlt
          simp only [Bool.and_eq_true, decide_eq_true_eq] at hv
          obtain ⟨⟨⟨⟨⟨v1, v2⟩, v3⟩, v4⟩, v6⟩, v7⟩ := hv
          have v6 := Nat.le_of_ble_eq_true v6
          have hlen : ((items.drop off).take len).length = len := by simp; omega
          have := hgrow (hn rfl) ad ((items.drop off).take len) p cap none (by rw [hlen]; exact hsv) (hsrc (Nat.eq_of_beq_eq_true v3) (Nat.eq_of_beq_eq_true v4) v6) v1 (by rw [hlen]; omega) (by rw [hlen]; exact v7)
          rw [hlen] at this
          exact this
    · cases h
  · cases h
end
end Go.Tm

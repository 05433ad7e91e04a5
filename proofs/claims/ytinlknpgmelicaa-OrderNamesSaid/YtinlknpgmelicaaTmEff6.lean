/- Operations with an effect: copy, clear, conversions. -/
import Derived.Test.YtinlknpgmelicaaTmEff5
import Derived.Laws.BytesString
namespace Go.Tm
open Go.RowKit Go.WideShapes
set_option linter.unusedSimpArgs false

theorem wrap_i64 {n : Int} (h1 : 0 ≤ n) (h2 : n ≤ 9223372036854775807) : IntKind.i64.wrap n = n := by
  simp [IntKind.wrap, IntKind.signed, IntKind.bits]
  omega

theorem bytes_elems {C : Cx} : ∀ (xs : List D) (l : List UInt8) (b o : Nat), bytesD xs = some l → elems C xs b o 1 → ∃ ns : List Int, ns.length = xs.length ∧ l = ns.map (fun n => UInt8.ofNat n.toNat) ∧ C.w.rangeAt b o (ns.map (Value.int .u8))
  | [], l, b, o, h, _ => by
    simp only [bytesD, Option.some.injEq] at h
    subst h
    exact ⟨[], rfl, rfl, fun j v hj => by simp at hj⟩
  | d :: xs, l, b, o, h, he => by
    simp only [elems] at he
    obtain ⟨⟨v, h1, _, _, h4⟩, h5⟩ := he
    have hd : ∃ n l', d = .int .u8 n ∧ bytesD xs = some l' ∧ l = UInt8.ofNat n.toNat :: l' := by
      unfold bytesD at h
      split at h
      · rename_i heq; cases heq
      · rename_i n r heq
        cases heq
        split at h
        · rename_i l' hl
          cases h
          exact ⟨n, l', rfl, hl, rfl⟩
        · cases h
      · cases h
    obtain ⟨n, l', rfl, hl, rfl⟩ := hd
    · skip
      obtain ⟨ns, g1, rfl, g3⟩ := bytes_elems xs l' b (o + 1) hl h5
      simp only [rep] at h1
      obtain ⟨rfl, _⟩ := h1
      refine ⟨n :: ns, by simp [g1], by simp, ?_⟩
      intro j u hj
      cases j with
      | zero => simp at hj; subst hj; exact h4 0 _ rfl
      | succ j =>
        have := g3 j u (by simpa using hj)
        rwa [show o + (j + 1) = o + 1 + j by omega]

theorem foldl_bytes : ∀ (ns : List Int) (s : ByteArray), (ns.foldl (fun r n => r.push (UInt8.ofNat n.toNat)) s).data.toList = s.data.toList ++ ns.map (fun n => UInt8.ofNat n.toNat)
  | [], s => by simp
  | n :: ns, s => by
    rw [List.foldl_cons, foldl_bytes ns]
    simp [ByteArray.push]

section
variable {P : Program} {E : En} {n : Nat} {F : FrS} {a : Act} {w : World} {g : Gh} (hR : Rel E n F a w g)
include hR

theorem Rel.reword {id : Nat} {blk blk' : Blk} (hb : F.hp id = some blk) (h : ∀ C, C.rf = true → holds C id blk → holds C id blk') : Rel E n (F.eff [(id, some blk')] (0, 0)) a w g := by
  have hp0 : effH F.hp [(id, some blk')] id = some blk' := by simp [effH, getL]
  have hp1 : ∀ x, x ≠ id → effH F.hp [(id, some blk')] x = F.hp x := by
    intro x hx
    have hb : Nat.beq id x = false := beq_ne (fun e => hx e.symm)
    simp [effH, getL, hb]
  have hne : ∀ x, effH F.hp [(id, some blk')] x ≠ none → F.hp x ≠ none := by
    intro x h
    by_cases e : x = id
    · subst e; rw [hb]; simp
    · rwa [hp1 x e] at h
  have hown : ∀ b, ownB g (effH F.hp [(id, some blk')]) b → w.heap.size ≤ b ∨ ownB g F.hp b := by
    rintro b ⟨x, o', h1, h2⟩
    exact .inr ⟨x, o', hne x h1, h2⟩
  have hle : Cx.Le (cx w g F.hp) (cx w g (effH F.hp [(id, some blk')])) := Mem.le (g' := g) (ch := fun _ => False) ((Keep.refl _ w).mono fun _ _ h => h) rfl rfl (fun _ _ => rfl) hown
  have : F.eff [(id, some blk')] (0, 0) = ⟨F.rd, effH F.hp [(id, some blk')], F.nu⟩ := by unfold FrS.eff; rw [effN_none]
  rw [this]
  refine Rel.change hR (ch := fun k => k = id) (Keep.refl _ w) rfl rfl (fun _ _ => rfl) hown ?_ ?_ ?_ (fun _ _ => rfl) (fun _ h => h)
  · intro x blk2 hb2
    by_cases e : x = id
    · subst e
      rw [hp0] at hb2
      cases hb2
      exact .inr (h _ rfl (holds_le (C := cx w g F.hp) hle rfl rfl (fun _ _ _ => rfl) (hR.mem.hd x blk hb)))
    · rw [hp1 x e] at hb2
      exact .inl ⟨e, hb2⟩
  · intro x y b o o' h1 h2 h3 h4
    exact hR.mem.inj x y b o o' (hne x h1) (hne y h2) h3 h4
  · intro x h
    obtain ⟨h1, h2⟩ := hR.mem.nw x h
    refine ⟨h1, ?_⟩
    by_cases e : x = id
    · subst e; rw [hb] at h2; cases h2
    · rw [hp1 x e]; exact h2

omit hR in
theorem arr_weak {C : Cx} (hC : C.rf = true) {id e s : Nat} {p q : Bool} {items : List D} (hq : q = true → p = true) (h : holds C id (.arr e s p items)) : holds C id (.arr e s q items) := by
  rcases h with h | ⟨b, cs, h1, h2, h3, h4⟩
  · exact .inl h
  · exact .inr ⟨b, cs, h1, h2, h3, elems_le (C := { C with rf := !p }) (C' := { C with rf := !q }) (le_rf (Cx.Le.refl C) hC _ _ (by cases p <;> cases q <;> simp at hq ⊢)) _ _ _ _ rfl h4⟩

theorem e_makeSlice {o : Oper} {t : TypeId} {ti : TI} {x y : Operand} {k k' : IntKind} {l m : Int} {id : Nat} (hn : F.nu id = true) (ho : o.op = .makeSlice t x y) (ht : tiChk P t ti = true) (hk : ti.kind = 3)
    (hx : rep (cx w g F.hp) (.int k l) (a.eval x)) (hy : rep (cx w g F.hp) (.int k' m) (a.eval y)) (h0 : 0 ≤ l) (h1 : l ≤ m) (hb : m * ti.eby ≤ 140737488355328) (hm : m ≤ 9223372036854775807) :
    Leaves P E n a o (F.eff [(id, some (.arr ti.el ti.esz true (List.replicate l.toNat (zeroEl ti))))] (id, id + 1)) (.ref id ti.esz 0 l.toNat (some m.toNat)) w := by
  obtain ⟨e, j, hu, hj, hj1, hj2, hj3, hj4, ⟨z, hz, hzs, hzc, hza⟩, hel⟩ := ti_slice ht hk
  subst hel
  simp only [rep] at hx hy
  obtain ⟨hx, _⟩ := hx
  obtain ⟨hy, _⟩ := hy
  have hrun : (Instr.makeSlice t (a.eval x) (a.eval y)).run P w = .ok (.slice (some ⟨w.heap.size, 0, none⟩) l.toNat m.toNat) (w.alloc (.cells (List.replicate m.toNat z.cells.toList).flatten.toArray ti.el)) := by
    have hlb : ¬ (l < 0) := by omega
    have hml : ¬ (l > m) := by omega
    have hm0 : ¬ (m < 0) := by omega
    have hbb : ¬ ((j.bytes : Int) * m > 2 ^ 48) := by rw [hj2, Int.mul_comm]; omega
    have hroom : ¬ (m.toNat * j.bytes > roomBytes) := by
      unfold roomBytes
      rw [hj2]
      have : ((m.toNat * ti.eby : Nat) : Int) = m * ti.eby := by rw [Int.natCast_mul, Int.toNat_of_nonneg (by omega)]
      omega
    have hrow : (if m.toNat * j.size = 0 then (#[] : Array Value) else z.cells) = #[] ∧ m.toNat = 0 ∨ (if m.toNat * j.size = 0 then (#[] : Array Value) else z.cells) = z.cells := by
      by_cases h : m.toNat * j.size = 0
      · left; simp only [h, if_true]; exact ⟨trivial, (Nat.mul_eq_zero.1 h).resolve_right hj4⟩
      · right; simp only [h, if_false]
    have hcells : ((Array.range (m.toNat * j.size)).map fun i => (if m.toNat * j.size = 0 then (#[] : Array Value) else z.cells)[i % (if m.toNat * j.size = 0 then (#[] : Array Value) else z.cells).size]!) = (List.replicate m.toNat z.cells.toList).flatten.toArray := by
      apply Array.ext'
      rcases hrow with ⟨h1, h2⟩ | h1
      · rw [h1, h2]; simp
      · rw [h1, ← hzs]; exact range_zeros z.cells m.toNat
    simp only [Instr.makeSlice, Sem.run_bind, run_underlying hu, Result.andThen_ok, hx, hy, asInt, asIntOf, Sem.run_pure, typeInfo, run_program, hj]
    rw [wrap_i64 (by omega) hm, wrap_i64 h0 (by omega)]
    have hc : ¬ ((decide (m < 0) || decide ((j.bytes : Int) * m > 2 ^ 48)) = true ∨ l < 0 ∨ l > m) := by simp only [Bool.or_eq_true, decide_eq_true_eq]; omega
    by_cases hz0 : m.toNat * j.size = 0
    · have hmz : m.toNat = 0 := (Nat.mul_eq_zero.1 hz0).resolve_right hj4
      simp [hlb, hml, hm0, hbb, hroom, askRoom, sizeOf, typeInfo, hj, hmz, newRow, Array.range_zero']
      omega
    · simp only [hz0, if_false] at hcells
      simp [hlb, hml, hm0, hbb, hroom, askRoom, sizeOf, typeInfo, hj, hz0, zeroValue, hz, newRow, hcells]
      omega
  have hzr : ∀ C : Cx, rep C (zeroEl ti) z := fun C => zeroEl_rep hzc hza
  have hone : z.cells.toList.all (·.oneCell') = true := (zeroChk_one _ _ hzc).1
  have hflen : ∀ k : Nat, ((List.replicate k z.cells.toList).flatten).length = k * ti.esz := by
    intro k; simp [hzs, hj1]
  have hsplit : List.replicate m.toNat z.cells.toList = List.replicate l.toNat z.cells.toList ++ List.replicate (m.toNat - l.toNat) z.cells.toList := by
    rw [List.replicate_append_replicate]; congr 1; omega
  have := leaves_row (P := P) hR (o := o) (e := ti.el) (id := id) (esz := ti.esz) (ncap := m.toNat) (its := List.replicate l.toNat (zeroEl ti)) (p := true) (kl := none) (oc := some m.toNat) (cells := (List.replicate l.toNat z.cells.toList).flatten) (rest := (List.replicate (m.toNat - l.toNat) z.cells.toList).flatten) (w1 := w) hn (Keep.refl _ w) rfl
    (by unfold execOp; simp only [ho]; simp only [Sem.run_bind, hrun, Result.andThen_ok, Sem.run_pure, List.length_replicate]; rw [← List.flatten_append, ← hsplit])
    (by rw [hflen, hflen, ← Nat.add_mul]; congr 1; omega) (by simp; omega) (by omega) (fun c h => by cases h; rfl) (carry_zero hzr (by omega) hone _)
  simpa [kill] using this

theorem e_copy {o : Oper} {c : Call} {t t' : TypeId} {ti : TI} {s x : Operand} {id off len e s'' : Nat} {oc : Option Nat} {pu px : Bool} {items xs : List D} (ho : o.op = .call c) (hc : c.callee = .builtin .copy) (hca : c.args.toList = [s, x]) (hct : c.argTypes.toList = [t, t'])
    (ht : tiChk P t ti = true) (hk : ti.kind = 3) (hs : rep (cx w g F.hp) (.ref id ti.esz off len oc) (a.eval s)) (hb : F.hp id = some (.arr e s'' pu items)) (hs2 : s'' = ti.esz) (hl : off + len ≤ items.length) (hx : SrcV (cx w g F.hp) ti.esz xs px (a.eval x)) :
    Leaves P E n a o (F.eff [(id, some (.arr e s'' (pu && px) (items.take off ++ xs.take len ++ items.drop (off + Nat.min xs.length len))))] (0, 0)) (.int .i64 (Nat.min xs.length len : Nat)) w := by
  subst hs2
  obtain ⟨el, j, hu, hj, hj1, hj2, hj3, hj4, _⟩ := ti_slice ht hk
  have e1 : c.args = #[s, x] := by apply Array.ext'; simpa using hca
  have e2 : c.argTypes = #[t, t'] := by apply Array.ext'; simpa using hct
  simp only [rep] at hs
  obtain ⟨_, ad, cap, hsv, g1, g2, g3, _, g4⟩ := hs
  have hmin : Nat.min xs.length len ≤ xs.length := Nat.min_le_left _ _
  have hmin2 : Nat.min xs.length len ≤ len := Nat.min_le_right _ _
  obtain ⟨news, n1, n2, n3, n4⟩ := hx.first (P := P) hmin
  have htk : xs.take len = xs.take (Nat.min xs.length len) := by
    rw [List.take_eq_take_iff]
    show min len xs.length = min (min xs.length len) xs.length
    omega
  have hsz : (sizeOf el).run P w = .ok ti.esz w := by simp [sizeOf, typeInfo, hj, hj1]
  have hrun0 : ∀ w', (match ad with | some ad => (storeCells ad news).run P w | none => .ok () w) = .ok () w' → (execOp a.eval o).run P w = .ok (.value (.int .i64 (Nat.min xs.length len : Nat))) w' := by
    intro w' h
    unfold execOp
    have hlen := hx.len (P := P) w
    have n2' : (Builtin.firstCells ti.esz (min xs.length len) (a.eval x)).run P w = .ok news.toArray w := n2
    cases ad with
    | none =>
      simp only at h
      cases h
      simp [ho, resolve, hc, e1, e2, hsv, invoke, builtin, Builtin.copy_, run_underlying hu, hlen, hsz, n2', goInt]
    | some ad =>
      simp only at h
      simp [ho, resolve, hc, e1, e2, hsv, invoke, builtin, Builtin.copy_, run_underlying hu, hlen, hsz, n2', goInt, h]
  have hd : ∀ C, rep C (.int .i64 (Nat.min xs.length len : Nat)) (.int .i64 (Nat.min xs.length len : Nat)) := by
    intro C
    simp only [rep]
    refine ⟨trivial, ?_, ?_⟩ <;> simp [IntKind.min, IntKind.max, IntKind.signed, IntKind.bits] <;> omega
  by_cases hz : Nat.min xs.length len = 0
  · have hnn : news = [] := List.eq_nil_of_length_eq_zero (by rw [n1, hz]; simp)
    subst hnn
    have hit : items.take off ++ xs.take len ++ items.drop (off + Nat.min xs.length len) = items := by
      rw [htk, hz]; simp
    rw [hit]
    refine ⟨_, w, g, .inl (hrun0 w (by cases ad <;> rfl)), hd _, ?_⟩
    exact Rel.reword hR hb fun C hC h => arr_weak hC (by cases pu <;> cases px <;> simp) h
  · rcases g4 with g4 | ⟨b, T, nn, hσ, rfl, hsh, hnn⟩
    · omega
    rcases hR.mem.hd id _ hb with ⟨rfl, _⟩ | ⟨b', cs, hσ', hblk, hszz, hel⟩
    · simp at hl; omega
    have e' := hσ'.symm.trans hσ
    simp only [Option.some.injEq, Prod.mk.injEq] at e'
    obtain ⟨rfl, _⟩ := e'
    rw [htk]
    exact leaves_mid hR (q := px) hb hσ' hblk hszz hel (by omega) (List.length_take.trans (Nat.min_eq_left hmin)) n1 n3 n4 (fun w' h => hrun0 w' h) hd

/-- what a slice up to its block's end has room for -/
theorem ref_room {id s off len e s'' : Nat} {pu : Bool} {items : List D} {ad : Option Addr} {cap : Nat} (hs : rep (cx w g F.hp) (.ref id s off len none) (.slice ad len cap)) (hb : F.hp id = some (.arr e s'' pu items)) (hs2 : s'' = s) (hz : s ≠ 0) : items.length ≤ off + cap := by
  subst hs2
  simp only [rep] at hs
  obtain ⟨_, ad', cap', hv, g1, g2, g3, goc, g4⟩ := hs
  simp only [Value.slice.injEq] at hv
  obtain ⟨rfl, _, rfl⟩ := hv
  obtain ⟨b, T, nn, hσ, hsh, hnn⟩ := goc.2 (by simp)
  rcases hR.mem.hd id _ hb with ⟨rfl, _⟩ | ⟨b', cs, hσ', hblk, hszz, hel⟩
  · simp
  have e' := hσ'.symm.trans hσ
  simp only [Option.some.injEq, Prod.mk.injEq] at e'
  obtain ⟨rfl, _⟩ := e'
  have hblk' : w.heap[b']? = some (.cells cs e (0, 0)) := hblk
  have hshe : (cx w g F.hp).w.shape? b' = some (e, cs.size) := by simp [cx, World.shape?, hblk']
  rw [hsh] at hshe
  simp only [Option.some.injEq, Prod.mk.injEq] at hshe
  have h1 : items.length * s'' ≤ (off + cap) * s'' := by
    rw [Nat.add_mul, hnn, hshe.2]; exact hszz
  exact Nat.le_of_mul_le_mul_right h1 (by omega)

theorem e_appendIn {o : Oper} {c : Call} {t t' : TypeId} {ti : TI} {s x : Operand} {ds : D} {xs : List D} {q vx : Bool} {out : Out} (ho : o.op = .call c) (hc : c.callee = .builtin .append) (hca : c.args.toList = [s, x]) (hct : c.argTypes.toList = [t, t'])
    (ht : tiChk P t ti = true) (hk : ti.kind = 3) (ht' : (∃ e', P.underlying t' = some (.slice e')) ∨ P.underlying t' = some .string) (hs : rep (cx w g F.hp) ds (a.eval s)) (hx : vx = true → SrcV (cx w g F.hp) ti.esz xs q (a.eval x))
    (h : appendIn F.hp ti.esz ds xs q vx = some out) (hv : out.vc = true) :
    Leaves P E n a o (F.eff out.eff out.nw) out.d w := by
  obtain ⟨el, j, hu, hj, hj1, hj2, hj3, hj4, _⟩ := ti_slice ht hk
  have e1 : c.args = #[s, x] := by apply Array.ext'; simpa using hca
  have e2 : c.argTypes = #[t, t'] := by apply Array.ext'; simpa using hct
  have hop : ∀ sv, a.eval s = sv → ∀ v' w', (Builtin.append_ #[t, t'] o.type #[sv, a.eval x]).run P w = .ok v' w' → (execOp a.eval o).run P w = .ok (.value v') w' := by
    intro sv h1 v' w' hr
    unfold execOp; simp [ho, resolve, hc, e1, e2, h1, invoke, builtin, hr]
  unfold appendIn at h
  split at h
  · rename_i id s' off len
    split at h
    · rename_i e s'' p items hb
      cases hcase : (Nat.beq off 0 && Nat.beq len items.length)
      · rw [hcase] at h
        cases h
        simp only [Bool.and_eq_true] at hv
        obtain ⟨⟨⟨v1, v2⟩, v3⟩, v4⟩ := hv
        obtain rfl := Nat.eq_of_beq_eq_true v2
        obtain rfl := Nat.eq_of_beq_eq_true v3
        have v4 := Nat.le_of_ble_eq_true v4
        have hs0 := hs
        simp only [rep] at hs0
        obtain ⟨_, ad, cap, hsv, g1, g2, g3, goc, g4⟩ := hs0
        rw [hsv] at hs
        have hroom0 := ref_room hR hs hb rfl (by omega)
        have hroom : len + xs.length ≤ cap := by omega
        obtain ⟨news, hN, hNc⟩ := (hx v1).src (P := P) ht'
        have hbase : ∀ hp', rep (cx w g hp') (.ref id ti.esz off (len + xs.length) none) (.slice ad (len + xs.length) cap) := by
          intro hp'
          simp only [rep, cx] at hs ⊢
          obtain ⟨k0, ad', cap', hv', k1, k2, k3, k4, k5⟩ := hs
          simp only [Value.slice.injEq] at hv'
          obtain ⟨rfl, _, rfl⟩ := hv'
          exact ⟨k0, _, _, rfl, hroom, k2, k3, k4, k5⟩
        have hres : ∀ C, Cx.Le (cx w g F.hp) C → rep C (.ref id ti.esz off (len + xs.length) none) (.slice ad (len + xs.length) cap) := fun C hle => rep_le hle _ _ (hbase F.hp)
        by_cases hz : xs = []
        · subst hz
          have hnn : news = [] := List.eq_nil_of_length_eq_zero (by simpa using hN.newsLen)
          subst hnn
          have hr := hop _ hsv _ _ (run_append_none (P := P) hu hj (by rw [hj1]; exact hN) g1)
          have hit : items.take (off + len) ++ [] ++ items.drop (off + len + ([] : List D).length) = items := by simp
          rw [hit]
          exact ⟨_, w, g, .inl hr, hbase _, Rel.reword hR hb fun C hC h => arr_weak hC (by cases p <;> cases q <;> simp) h⟩
        · have hpos := List.length_pos_iff.2 hz
          rcases g4 with g4 | ⟨b, T, nn, hσ, rfl, hsh, hnn⟩
          · omega
          rcases hR.mem.hd id _ hb with ⟨rfl, _⟩ | ⟨b', cs, hσ', hblk, hszz, hel⟩
          · simp only [List.length_nil] at v4; omega
          have e' := hσ'.symm.trans hσ
          simp only [Option.some.injEq, Prod.mk.injEq] at e'
          obtain ⟨rfl, _⟩ := e'
          refine leaves_mid' hR (q := q) hb hσ' hblk hszz hel v4 rfl hN.newsLen (List.all_eq_true.2 hN.one) hNc (fun w' hst => hop _ hsv _ _ ?_) hres
          rw [Nat.add_mul] at hst
          rw [← hj1] at hst ⊢
          have hN' : Go.Src P j.size t' (a.eval x) xs.length news w := by rw [hj1]; exact hN
          rcases hN'.kind with ⟨e3, hk3⟩ | hk3 <;> simp [Builtin.append_, run_underlying hu, run_underlying hk3, sizeOf, typeInfo, hj, hN'.len, hroom, hN'.cells, Addr.add_lit, hst]
      · rw [hcase] at h; cases h
    · cases h
  · cases h

theorem e_clear {o : Oper} {c : Call} {t : TypeId} {ti : TI} {x : Operand} {id off len e s' : Nat} {oc : Option Nat} {pu : Bool} {items : List D} (ho : o.op = .call c) (hc : c.callee = .builtin .clear) (hca : c.args.toList = [x]) (hct : c.argTypes.toList = [t])
    (ht : tiChk P t ti = true) (hk : ti.kind = 3) (hx : rep (cx w g F.hp) (.ref id ti.esz off len oc) (a.eval x)) (hb : F.hp id = some (.arr e s' pu items)) (hs2 : s' = ti.esz) (hl : off + len ≤ items.length) :
    Leaves P E n a o (F.eff [(id, some (.arr e s' pu (items.take off ++ List.replicate len (zeroEl ti) ++ items.drop (off + len))))] (0, 0)) (.tuple []) w := by
  subst hs2
  obtain ⟨el, j, hu, hj, hj1, hj2, hj3, hj4, ⟨z, hz, hzs, hzc, hza⟩, _⟩ := ti_slice ht hk
  have e1 : c.args = #[x] := by apply Array.ext'; simpa using hca
  have e2 : c.argTypes = #[t] := by apply Array.ext'; simpa using hct
  simp only [rep] at hx
  obtain ⟨_, ad, cap, hsv, g1, g2, g3, _, g4⟩ := hx
  have hd : ∀ C, rep C (.tuple []) (.tuple #[]) := by
    intro C
    simp only [rep, reps]
    exact ⟨[], rfl, rfl⟩
  by_cases hz0 : len = 0
  · subst hz0
    have hit : items.take off ++ List.replicate 0 (zeroEl ti) ++ items.drop (off + 0) = items := by simp
    rw [hit]
    refine ⟨.tuple #[], w, g, .inl ?_, hd _, ?_⟩
    · unfold execOp
      cases ad <;> simp [ho, resolve, hc, e1, e2, hsv, invoke, builtin, Builtin.clear_, run_underlying hu]
    · exact Rel.reword hR hb fun C hC h => h
  · rcases g4 with g4 | ⟨b, T, nn, hσ, rfl, hsh, hnn⟩
    · omega
    rcases hR.mem.hd id _ hb with ⟨rfl, _⟩ | ⟨b', cs, hσ', hblk, hszz, hel⟩
    · simp at hl; omega
    have e' := hσ'.symm.trans hσ
    simp only [Option.some.injEq, Prod.mk.injEq] at e'
    obtain ⟨rfl, _⟩ := e'
    have hzl : (Builtin.zeroCells z.cells len).toList = (List.replicate len z.cells.toList).flatten := range_zeros z.cells len
    have hzv : (zeroValue el).run P w = .ok z w := by simp [zeroValue, typeInfo, hj, hz]
    have := leaves_mid (P := P) hR (o := o) (q := true) (mids := List.replicate len (zeroEl ti)) (nv := (List.replicate len z.cells.toList).flatten) (v := .tuple #[]) (d := .tuple []) hb hσ' hblk hszz hel hl (by simp) (by simp [hzs, hj1]) (by
        have := (zeroChk_one _ _ hzc).1
        simp only [List.all_flatten, List.all_replicate]
        simp [this]) (carry_zero (fun C => zeroEl_rep hzc hza) (by omega) (zeroChk_one _ _ hzc).1 len) (fun w' h => by
        rw [← hzl] at h
        unfold execOp
        obtain ⟨k, rfl⟩ : ∃ k, len = k + 1 := ⟨len - 1, by omega⟩
        simp [ho, resolve, hc, e1, e2, hsv, invoke, builtin, Builtin.clear_, run_underlying hu, hzv, h]) hd
    simpa using this

omit hR in
theorem rn_shape (r : Nat) : (shape r).run P w = .ok (w.shape? r) w := rfl

theorem e_convBytes {o : Oper} {t t' : TypeId} {ti tj ti' : TI} {x : Operand} {l : List UInt8} (ho : o.op = .convert t' t x) (ht : tiChk P t ti = true) (hk : ti.kind = 3) (hte : tiChk P ti.el tj = true) (hke : tj.kind = 6) (hik : tj.ik = some .u8) (ht' : tiChk P t' ti' = true)
    (hx : rep (cx w g F.hp) (.str l) (a.eval x)) : Leaves P E n a o (F.eff [] (0, 0)) (.imm 1 (l.map ub) 10) w := by
  obtain ⟨e, j, hu, hj, hj1, hj2, hj3, hj4, _, hel⟩ := ti_slice ht hk
  subst hel
  have hue := ti_int hte hke hik
  obtain ⟨i', d', hi', hd', _⟩ := tiChk_parts ht'
  simp only [rep] at hx
  obtain ⟨hx, hlen⟩ := hx
  have hsz : (⟨l.toArray⟩ : ByteArray).size = l.length := by simp [ByteArray.size]
  have hge := grownCap_ge w l.length 0 ti.el
  have hmx := grownCap_le_maxLen w l.length 0 ti.el (by unfold maxLen; omega)
  unfold maxLen at hmx
  let cs : Array Value := ((l.map fun b : UInt8 => Value.int .u8 (b.toNat : Int)) ++ List.replicate (grownCap w l.length 0 ti.el - l.length) (Value.int .u8 0)).toArray
  have hcs : cs.size = grownCap w l.length 0 ti.el := by simp [cs]; omega
  let w1 := w.drew.alloc (.cells cs ti.el)
  have hblk1 : w1.heap[w.heap.size]? = some (.cells cs ti.el (0, 0)) := heap_alloc_new w.drew _
  have hrun : (execOp a.eval o).run P w = .ok (.value (.slice (some ⟨w.heap.size, 0, none⟩) l.length (grownCap w l.length 0 ti.el))) (w1.freeze { block := w.heap.size, off := cs.size } 1) := by
    have hsb : (Conv.stringToBytes ti.el ⟨l.toArray⟩).run P w = .ok (.slice (some ⟨w.heap.size, 0, none⟩) l.length (grownCap w l.length 0 ti.el)) (w1.freeze { block := w.heap.size, off := cs.size } 1) := by
      have hcells : (Array.map (fun b : UInt8 => Value.int .u8 (b.toNat : Int)) l.toArray ++ Array.replicate (grownCap w l.length 0 ti.el - l.length) (Value.int .u8 0)) = cs := by
        apply Array.ext'; simp [cs]
      have hshape : w1.shape? w.heap.size = some (ti.el, cs.size) := by simp [World.shape?, hblk1]
      have hms : (markStringish ⟨w.heap.size, 0, none⟩).run P w1 = .ok () (w1.freeze { block := w.heap.size, off := cs.size } 1) := by
        simp only [markStringish, Sem.run_bind, rn_shape, Result.andThen_ok, hshape]
        rfl
      have hch : (choose (.appendCap l.length 0 ti.el)).run P w = .ok (grownCap w l.length 0 ti.el) w.drew := rfl
      have hnr : (newRow ti.el cs).run P w.drew = .ok ⟨w.heap.size, 0, none⟩ w1 := rfl
      simp only [Conv.stringToBytes, hsz, Sem.run_bind, hch, Result.andThen_ok, hcells, hnr, hms, Sem.run_pure]
    unfold execOp
    cases d' <;> simp [ho, hx, convert, run_underlying hu, run_underlying hd', run_underlying hue, hsb]
  have hK : Keep (fun _ => False) w (w1.freeze { block := w.heap.size, off := cs.size } 1) := by
    have h1 : Keep (fun _ => False) w w1 := (Keep.refl _ w).drew.trans (Keep.alloc _ _ _)
    refine ⟨h1.os, h1.tape, h1.output, ?_, fun k hk hx => ?_, fun k hk => ?_⟩
    · have := h1.size
      simpa [World.freeze] using this
    · rw [← h1.block k hk hx]
      simp only [World.freeze, Nat.one_ne_zero, if_false]
      rw [Array.getElem?_modify]
      simp [Nat.ne_of_gt hk]
    · rw [← h1.shp k hk]
      unfold World.shape?
      simp only [World.freeze, Nat.one_ne_zero, if_false]
      rw [Array.getElem?_modify]
      simp [Nat.ne_of_gt hk]
  have hblk : (w1.freeze { block := w.heap.size, off := cs.size } 1).heap[w.heap.size]? = some (.cells cs ti.el (cs.size, cs.size + 1)) := by
    simp only [World.freeze, Nat.one_ne_zero, if_false]
    rw [Array.getElem?_modify]
    simp [hblk1]
  have hrange := rangeAt_prefix hblk [] (l.map fun b => Value.int .u8 (b.toNat : Int)) (List.replicate (grownCap w l.length 0 ti.el - l.length) (Value.int .u8 0)) (by simp [cs]) rfl
  rw [eff_none]
  refine ⟨_, _, g, .inl hrun, ?_, Rel.ext hR hK⟩
  simp only [rep]
  refine ⟨some ⟨w.heap.size, 0, none⟩, grownCap w l.length 0 ti.el, by rw [List.length_map], by rw [List.length_map]; exact hge, by omega, by simp, by simp, by simp, by simp, fun _ => rfl, .inr fun Z' hZ' => ?_⟩
  obtain ⟨Z1, k1, k2, k3⟩ := hR.mem.zs.z1
  have : Z' = Z1 := by
    have : g.zn 1 = some Z' := by simpa [Cx.zone, cx] using hZ'
    rw [k1] at this
    exact (Option.some.inj this).symm
  subst this
  refine ⟨_, rfl, rfl, ?_, k3 _ (Nat.le_refl _), (Array.getElem?_eq_some_iff.1 hblk).1, ?_⟩
  · intro h
    have : w.heap.size < w.heap.size := hR.mem.own_lt h
    omega
  · exact carry_bytes l _ _ _ hrange _ rfl (Cx.Le.refl ((cx (w1.freeze { block := w.heap.size, off := cs.size } 1) g F.hp).at Z'))

omit hR in
theorem q_convText {C : Cx} {o : Oper} {t t' : TypeId} {ti ti' tj : TI} {x : Operand} {xs : List D} {p : Bool} {l : List UInt8} (hCw : C.w = w) (ho : o.op = .convert t' t x) (ht : tiChk P t ti = true) (hk : ti.kind = 5) (ht' : tiChk P t' ti' = true) (hk' : ti'.kind = 3) (hte : tiChk P ti'.el tj = true) (hke : tj.kind = 6) (hik : tj.ik = some .u8)
    (hx : SrcV C 1 xs p (a.eval x)) (hns : ∀ s, a.eval x ≠ .string s) (hl : bytesD xs = some l) (hlen : (xs.length : Int) ≤ 9223372036854775807) : Quiet P C a o (.str l) w := by
  have hu := ti_string ht hk
  obtain ⟨e, j, hu', hj, _, _, _, _, _, hel⟩ := ti_slice ht' hk'
  subst hel
  have hue := ti_int hte hke hik
  subst hCw
  rcases hx with ⟨ax, c, hv, hx⟩ | ⟨_, s, hv, _⟩
  · have hcv : (convert t' t (a.eval x)).run P C.w = (Conv.bytesToString (a.eval x)).run P C.w := by
      rw [hv]
      cases ax <;> simp [convert, run_underlying hu, run_underlying hu', run_underlying hue]
    have key : ∃ ns : List Int, ns.length = xs.length ∧ l = ns.map (fun n => UInt8.ofNat n.toNat) ∧ (Conv.bytesToString (a.eval x)).run P C.w = .ok (.string (ns.foldl (fun r n => r.push (UInt8.ofNat n.toNat)) ByteArray.empty)) C.w := by
      rcases hx with rfl | ⟨a0, rfl, hs, he⟩
      · simp only [bytesD, Option.some.injEq] at hl
        subst hl
        refine ⟨[], rfl, rfl, ?_⟩
        rw [hv]
        cases ax with
        | none => simp [Conv.bytesToString]
        | some a0 => exact run_bytesToString C.w a0 0 c [] (by simp [loadCells, loadCellsFrom])
      · obtain ⟨ns, h1, h2, h3⟩ := bytes_elems xs l _ _ hl he
        refine ⟨ns, h1, h2, ?_⟩
        rw [hv]
        refine run_bytesToString C.w a0 xs.length c ns ?_
        have := run_loadCells_list (P := P) C.w a0 (ns.map (Value.int .u8)) (fun j v hj => by rw [addr_add hs]; exact h3 j v hj)
        rw [List.length_map, h1] at this
        exact this
    obtain ⟨ns, h1, h2, h3⟩ := key
    refine ⟨_, by unfold execOp; simp only [ho]; simp only [Sem.run_bind, hcv, h3, Result.andThen_ok, Sem.run_pure]; rfl, ?_⟩
    simp only [rep]
    refine ⟨?_, by rw [h2, List.length_map, h1]; exact hlen⟩
    congr 1
    apply bytes_inj
    rw [foldl_bytes]
    rw [← h2]
    show [] ++ l = l
    rfl
  · exact absurd hv (hns _)
end
end Go.Tm

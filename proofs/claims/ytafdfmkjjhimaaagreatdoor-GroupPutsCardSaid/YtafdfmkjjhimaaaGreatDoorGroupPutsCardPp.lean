/- Texts of the proof. -/
import Derived.SizedLaws
import Derived.Test.YtafdfmkjjhimaaaGreatDoorRows
import Derived.WalkKit
import Derived.ProofKit
import Derived.OpenShut
import Derived.Test.YtafdfmkjjhimaaaGreatDoorGroupPutsCardPo
import Derived.Test.YtafdfmkjjhimaaaGreatDoorGroupPutsCardPn
namespace Go.Tm
open Go.RowKit Go.WideShapes
def zga (P : Program) : Nat -> TypeId -> List D -> Prop
 | 0, _, _ => False
 | n + 1, t, l => match P.underlying t with
  | some .bool => ∃ b, l = [.bool b]
  | some (.int k) => ∃ m, l = [.int k m]
  | some .string => ∃ s, l = [.str s]
  | some (.slice e) => ∃ xs : List (List D), l = [.imm (P.cellsOf e) (xs.map (mkD P e)) 4] /\ xs.length * P.bytesOf e <= 140737488355328 /\ ∀ x ∈ xs, zga P n e x
  | some (.struct fs) => ya0k (zga P n) (fs.toList.map (·.type)) l
  | _ => False
section
variable {H : Type} {enc : TypeId × Value -> H} {P : Program} {w : World} {sp : Nat -> Bool}
theorem zna {e : TypeId} {k : Nat} : ∀ {l : List (DataW H)} {d : DataW H}, d ∈ l -> k ∈ DataW.weights P e d -> k ∈ DataW.weightsAll P e l
 | x :: l, d, hd, hk => by
  simp only [DataW.weightsAll, List.mem_append]
  rcases List.mem_cons.1 hd with rfl | hd
  exact .inl hk
  exact .inr (zna hd hk)
theorem zm0 {k : Nat} : ∀ {ts vt : List TypeId} {ds gs : List (DataW H)}, k ∈ DataW.weightsEach P ts ds -> k ∈ DataW.weightsEach P (ts ++ vt) (ds ++ gs)
 | [], _, _, _, h => by simp [DataW.weightsEach] at h
 | _ :: _, _, [], _, h => by simp [DataW.weightsEach] at h
 | t :: ts, vt, d :: ds, gs, h => by
  simp only [DataW.weightsEach, zal, List.mem_append] at h ⊢
  exact h.imp id zm0
theorem zp5 : ∀ (n fuel : Nat) (t : TypeId) (cs : List Value) (x : DataW H × List MemPlace) (C : Cx), C.w = w -> (∀ b, ¬ C.M b) -> (∀ b, C.Z b) -> zsf P n t = true -> DataW.trod enc P w 0 sp true fuel t cs = some x -> (∀ k ∈ DataW.weights P t x.1, k <= reachBytes) ->
  ∃ l, reps C l cs /\ zga P n t l /\ cs.all (·.oneCell') = true
 | 0, _, _, _, _, _, _, _, _, h, _, _ => by simp [zsf] at h
 | n + 1, fuel, t, cs, x, C, hw, hM, hlo, hd, h, hwt => by
  unfold zsf at hd
  split at hd
  rename_i ht
  simp only [zga, ht]
  obtain ⟨b, rfl, _⟩ := DataW.trod_bool ht h
  exact ⟨[.bool b], by simp only [reps, rep]; exact ⟨_, _, rfl, rfl, rfl⟩, ⟨b, rfl⟩, rfl⟩
  rename_i k ht
  simp only [zga, ht]
  obtain ⟨m, rfl, _, hwf⟩ := DataW.trod_int ht h
  simp only [Lit.wf, za0, decide_eq_true_eq] at hwf
  exact ⟨[.int k m], by simp only [reps, rep]; exact ⟨_, _, rfl, ⟨rfl, hwf⟩, rfl⟩, ⟨m, rfl⟩, rfl⟩
  rename_i ht
  simp only [zga, ht]
  obtain ⟨s, rfl, _, hs⟩ := DataW.trod_string ht h
  refine ⟨[.str s.data.toList], ?_, ⟨_, rfl⟩, rfl⟩
  simp only [reps, rep]
  refine ⟨_, _, rfl, ⟨by rw [Array.toArray_toList], ?_⟩, rfl⟩
  have h1 : s.data.toList.length = s.size := by rw [Array.length_toList]; rfl
  have h2 : s.size <= 9223372036854775807 := hs
  rw [h1]; omega
  ·rename_i e ht
   simp only [zga, ht]
   simp only [za0, zas] at hd
   obtain ⟨⟨hde, hpos⟩, hone⟩ := hd
   have hpos : 0 < P.cellsOf e := lb hpos
   rcases DataW.trod_slice ht h with ⟨rfl, _⟩ | ⟨a, len, cap, els, rest, m, _, rfl, rfl, hb, hl, hc, hlen, hel, _⟩
   refine ⟨[.imm (P.cellsOf e) (([] : List (List D)).map (mkD P e)) 4], ?_, ⟨[], rfl, by simp, fun _ h => by cases h⟩, rfl⟩
   simp only [reps, rep, List.map_nil, zac]
   exact ⟨_, _, rfl, ⟨none, 0, rfl, by simp, by simp, by simp, by simp, by simp, by simp, by simp, .inl trivial⟩, rfl⟩
   ·have hc : cap <= 9223372036854775807 := hc
    have key : ∀ i, i < len -> ∃ l v, zga P n e l /\ rep (C.at C.Z) (mkD P e l) v /\ v.cells.size = P.cellsOf e /\ v.cells.toList.all (·.oneCell') = true /\ (i = 0 -> a.spot = none) /\ a.block < w.heap.size /\ w.rangeAt a.block (a.off + i * P.cellsOf e) v.cells.toList := by
     intro i hi
     have hi' := hel i hi
     have hsome : els[i]? = some els[i] := List.getElem?_eq_getElem (by omega)
     rw [hsome, Option.bind_eq_some_iff] at hi'
     obtain ⟨cs', hcs, htr⟩ := hi'
     obtain ⟨_, hclen, hcell⟩ := World.cells?_some hcs
     obtain ⟨l, g1, g2, g3⟩ := zp5 n m e cs' _ (C.at C.Z) (by simpa [Cx.at] using hw) (by simpa [Cx.at] using hM) (by simpa [Cx.at] using hlo) hde htr (fun k hk => hwt k (by
      simp only [DataW.weights, ht, List.mem_cons, List.mem_append]
      exact .inr (.inl (zna (List.mem_map_of_mem (List.getElem_mem _)) hk))))
     have h0 := hcell 0 hpos
     have hc0 : cs'[0]? = some cs'[0] := List.getElem?_eq_getElem (by omega)
     rw [hc0] at h0
     have hadd : ∀ j, ((a.add (i * P.cellsOf e)).add j).block = a.block := by intro j; unfold Addr.add; split <;> split <;> rfl
     have hblk : a.block < w.heap.size /\ ((a.add (i * P.cellsOf e)).add 0).spot = none := by
      unfold World.cell? at h0
      rw [hadd] at h0
      split at h0
      rename_i c T fz hh
      have := (Array.getElem?_eq_some_iff.1 hh).1
      split at h0
      cases h0
      rename_i hs; exact ⟨this, by simpa using hs⟩
      cases h0
     have hspot0 : (a.add (i * P.cellsOf e)).spot = none := by simpa [Addr.add] using hblk.2
     have hae : ∀ j, j < P.cellsOf e -> (a.add (i * P.cellsOf e)).add j = ⟨a.block, a.off + i * P.cellsOf e + j, none⟩ := by
      intro j _
      unfold Addr.add at hspot0 ⊢
      split at hspot0
      ·rename_i hz
       simp only [hz, if_true, Nat.add_zero]
       split
       ·rename_i hj; subst hj; cases a; simp_all
       rfl
      rename_i hz
      simp only [hz, if_false]
      split
      rename_i hj; subst hj; rfl
      rfl
     have hrange : w.rangeAt a.block (a.off + i * P.cellsOf e) cs' := by
      intro j v hj
      have hjl := (List.getElem?_eq_some_iff.1 hj).1
      have := hcell j (by omega)
      rw [hae j (by omega), hj] at this
      exact this
     cases hag : aggT P e with
     | true =>
      refine ⟨l, .agg cs'.toArray, g2, ?_, by simp [Value.cells, hclen], by simpa [Value.cells] using g3, ?_, hblk.1, by simpa [Value.cells] using hrange⟩
      simp only [mkD, hag, cond_true, rep]
      exact ⟨cs', rfl, g1⟩
      rintro rfl; simpa [Addr.add] using hspot0
     | false =>
      rw [hag] at hone
      have h1 : P.cellsOf e = 1 := by simpa using hone
      rw [h1] at hclen
      obtain ⟨v, rfl⟩ := List.length_eq_one_iff.1 hclen
      obtain ⟨d, rfl⟩ : ∃ d, l = [d] := List.length_eq_one_iff.1 ((zdc _ _ g1).symm.trans rfl)
      simp only [reps] at g1
      obtain ⟨v', vs', hv, hd, rfl⟩ := g1
      obtain rfl : v = v' := (List.cons.inj hv).1
      have hcv : v.cells = #[v] := by
       simp only [List.all_cons, List.all_nil, Bool.and_true] at g3
       cases v <;> first | rfl | simp [Value.oneCell'] at g3
      refine ⟨[d], v, g2, by simpa [mkD, hag] using hd, by simp [hcv, h1], by simpa [hcv] using g3, ?_, hblk.1, by simpa [hcv] using hrange⟩
      rintro rfl; simpa [Addr.add] using hspot0
    obtain ⟨xs, g1, g2, g3⟩ := zyy (C := C.at C.Z) (b := a.block) (s := P.cellsOf e) (p := zga P n e) (f := mkD P e) len a.off (fun i hi => by
     obtain ⟨l, v, h1, h2, h3, h4, _, _, h5⟩ := key i hi
     exact ⟨l, v, h1, h2, h3, h4, by subst hw; exact h5⟩)
    refine ⟨[.imm (P.cellsOf e) (xs.map (mkD P e)) 4], ?_, ⟨xs, rfl, ?_, g3⟩, rfl⟩
    case refine_2 =>
     have h9 := hwt ((els.length + rest.length) * P.bytesOf e) (by simp [DataW.weights, ht])
     have h8 : xs.length * P.bytesOf e <= (els.length + rest.length) * P.bytesOf e := Nat.mul_le_mul_right _ (by omega)
     have h7 := reachBytes_lt
     omega
    simp only [reps, rep, List.length_map, g1]
    refine ⟨_, _, rfl, ⟨some a, cap, rfl, hl, by omega, by simp, by simp, by simp, by simp, by simp, ?_⟩, rfl⟩
    rcases Nat.eq_zero_or_pos len with h0 | h0
    left; subst h0; have := List.length_eq_zero_iff.1 g1; simp [this]
    right
    obtain ⟨_, _, _, _, _, _, k1, k2, _⟩ := key 0 h0
    intro Z hZ
    have hZ : C.Z = Z := by simpa [Cx.zone] using hZ
    subst hZ
    exact ⟨a, rfl, k1 rfl, hM _, hlo _, by exact ⟨by rw [hw]; exact k2, fun h => by simp at h⟩, g2⟩
  rename_i fs ht
  simp only [zga, ht]
  obtain ⟨xs, m, _, rfl, hcl, hxl, hf⟩ := DataW.trod_struct ht h
  have key : ∀ (gs : List Field) (k : Nat), (∀ i f, gs[i]? = some f -> fs[k + i]? = some f) -> ∀ off, zli P (zsf P n) off gs (P.cellsOf t) = true -> off <= cs.length -> 
    ∃ l, reps C l (cs.drop off) /\ ya0k (zga P n) (gs.map (·.type)) l /\ (cs.drop off).all (·.oneCell') = true := by
   intro gs
   induction gs with
   | nil =>
    intro k _ off ho _
    simp only [zli] at ho
    have ho := nb ho
    have : cs.drop off = [] := by rw [ho, <- hcl]; simp
    rw [this]
    exact ⟨[], by simp only [reps], rfl, rfl⟩
   | cons f gs ih =>
    intro k hk off ho hle
    simp only [zli, za0] at ho
    obtain ⟨⟨h1, h2⟩, h3⟩ := ho
    have h1 := nb h1
    have hfk := hf k f (by simpa using hk 0 f rfl)
    have hkl : k < xs.length := by
     have := hk 0 f rfl
     rw [hxl]
     exact (Array.getElem?_eq_some_iff.1 (by simpa using this)).1
    rw [List.getElem?_eq_getElem hkl, h1] at hfk
    obtain ⟨l1, g1, g2, g3⟩ := zp5 n m f.type _ _ C hw hM hlo h2 hfk (fun q hq => hwt q (by
     simp only [DataW.weights, ht]
     have h0 := hk 0 f rfl
     exact DataW.weights_mem_each (j := k) (by simp; exact ⟨f, by simpa using h0, rfl⟩) (by rw [List.getElem?_map, List.getElem?_eq_getElem hkl]; rfl) q hq))
    have hl1 : ((cs.drop off).take (P.cellsOf f.type)).length = P.cellsOf f.type := by
     have := zs7 _ _ _ h3
     simp
     omega
    obtain ⟨l2, k1, k2, k3⟩ := ih (k + 1) (fun i f' hi => by have := hk (i + 1) f' (by simpa using hi); rwa [show k + (i + 1) = k + 1 + i by omega] at this) (off + P.cellsOf f.type) h3 (by
     simp at hl1; omega)
    have e : cs.drop off = (cs.drop off).take (P.cellsOf f.type) ++ cs.drop (off + P.cellsOf f.type) := by
     rw [<- List.drop_drop, List.take_append_drop]
    refine ⟨l1 ++ l2, by rw [e]; exact zq0 g1 k1, ⟨l1, l2, rfl, g2, k2⟩, by rw [e, List.all_append, g3, k3]; rfl⟩
  simpa using key fs.toList 0 (fun i f hi => by simpa using hi) 0 hd (Nat.zero_le _)
  cases hd
theorem ya0m {r : Reach} {b0 n : Nat} {t : TypeId} {v : Value} {d : DataW H} {ps : List MemPlace} {fr : Nat} (hd : zsf P n t = true) (hval : Value.okWide P w r b0 t v) (h : DataW.Trod enc P w 0 sp true t v d ps) (hwt : ∀ k ∈ DataW.weights P t d, k <= reachBytes) :
  ∃ l, zga P n t l /\ rep (cx0 w fr) (mkD P t l) v := by
 obtain ⟨fuel, h⟩ := h
 obtain ⟨l, h1, h2, h3⟩ := zp5 n fuel t _ _ (cx0 w fr) rfl (fun _ h => h) (fun _ => trivial) hd h hwt
 refine ⟨l, h2, ?_⟩
 unfold mkD aggT
 cases n with
 | zero => simp [zsf] at hd
 | succ n =>
  unfold zsf at hd
  unfold Value.okWide at hval
  split at hd
  case h_5 fs ht =>
   rw [ht] at hval ⊢
   obtain ⟨cs, rfl, _⟩ := hval
   simp only [cond_true, rep]
   exact ⟨cs.toList, by simp, by simpa [Value.cells] using h1⟩
  case h_6 => cases hd
  all_goals
   rename_i ht
   rw [ht] at hval ⊢
   simp only [cond_false]
   have hcv : v.cells = #[v] := by
    cases v with
    | agg cs => simp [Cell.okWide, Cell.ok, ht] at hval
    | _ => rfl
   rw [hcv] at h1
   have hl : ∃ d, l = [d] := List.length_eq_one_iff.1 ((zdc _ _ h1).symm.trans rfl)
   obtain ⟨d, rfl⟩ := hl
   simp only [reps] at h1
   obtain ⟨v', vs', hv, hd', _⟩ := h1
   obtain rfl : v = v' := by simpa using (List.cons.inj hv).1
   exact hd'
def zjl (P : Program) (n : Nat) : List TypeId -> List D -> Prop
 | [], l => l = []
 | t :: ts, l => ∃ c r, l = mkD P t c :: r /\ zga P n t c /\ zjl P n ts r
theorem zo0 {r : Reach} {b0 n fr : Nat} : ∀ {ts : List TypeId} {vs : List Value} {ds : List (DataW H)} {ps : List MemPlace}, ts.all (zsf P n) = true -> (∀ (j : Nat) t v, ts[j]? = some t -> vs[j]? = some v -> Value.okWide P w r b0 t v) ->
  DataW.TrodAll enc P w 0 sp true ts vs ds ps -> (∀ k ∈ DataW.weightsEach P ts ds, k <= reachBytes) -> ∃ l, zjl P n ts l /\ reps (cx0 w fr) l vs
 | [], [], [], _, _, _, _, _ => ⟨[], rfl, by simp only [reps]⟩
 | t :: ts, v :: vs, d :: ds, ps, hd, hval, h, hwt => by
  obtain ⟨p, q, h1, h2, _⟩ := h
  simp only [List.all_cons, za0] at hd
  obtain ⟨c, g1, g2⟩ := ya0m (fr := fr) hd.1 (hval 0 t v rfl rfl) h1 (fun k hk => hwt k (by simp only [DataW.weightsEach, List.mem_append]; exact .inl hk))
  obtain ⟨l, k1, k2⟩ := zo0 hd.2 (fun j t v h h' => hval (j + 1) t v h h') h2 (fun k hk => hwt k (by simp only [DataW.weightsEach, List.mem_append]; exact .inr hk))
  exact ⟨_ :: l, ⟨c, l, rfl, g1, k1⟩, by simp only [reps]; exact ⟨_, _, rfl, g2, k2⟩⟩
 | [], _ :: _, _, _, _, _, h, _ => h.elim
 | [], [], _ :: _, _, _, _, h, _ => h.elim
 | _ :: _, [], _, _, _, _, h, _ => h.elim
 | _ :: _, _ :: _, [], _, _, _, h, _ => h.elim
theorem law_contractS {K : FuncId} {f : Func} {s : ChangeSpec} {apart fresh : Bool} {n : Nat} {tb : TypeId} (hl : laidOutB P = true) (hr : (f.params.toList.all fun t => P.readableRec t && Nat.blt t P.types.size) = true)
  (hd : f.params.toList.all (zsf P n) = true) (hvars : s.vars = []) (hres : f.resultTypes = #[tb]) (hb : P.underlying tb = some .bool)
  (hfn : ∀ ds : List (DataW H), ds.length = f.params.size -> s.fn H ds = { results := [.lit (.bool true)], args := ds })
  (hK : ∀ l, zjl P n f.params.toList l -> zb9 P K l (.bool true)) {W : World} (hG : Gw W.heap.size W) {base : Nat} {args : Array Value} {ds gs : List (DataW H)} {before : List MemPlace}
  (hval : ∀ (j : Nat) t v, f.params[j]? = some t -> args[j]? = some v -> Value.okWide P W .any base t v) (hW : DataW.Whole enc P f.params.toList s.vars apart W args.toList ds gs before) {vt : List TypeId} (hsz : (DataW.weightsEach P (f.params.toList ++ vt) (ds ++ gs)).all (· <= reachBytes) = true) :
  Calls P K args W fun e W' => ∃ v, e = .returned v /\ s.post enc P f apart fresh false false W args v W' := by
 have hW' := hW
 obtain ⟨p, q, hA, hV, rfl, hfz, hnd⟩ := hW
 rw [hvars] at hV
 have hlen : ds.length = f.params.size := by
  have : ∀ {ts : List TypeId} {vs : List Value} {ds : List (DataW H)} {ps : List MemPlace}, DataW.TrodAll enc P W 0 (fun _ => true) true ts vs ds ps -> ds.length = ts.length := by
   intro ts
   induction ts with
   | nil => intro vs ds ps h; cases vs <;> cases ds <;> first | rfl | exact h.elim
   | cons t ts ih => intro vs ds ps h; cases vs <;> cases ds <;> first | (obtain ⟨_, _, _, h2, _⟩ := h; simp [ih h2]) | exact h.elim
  simpa using this hA
 have hgs : gs = [] /\ q = [] := by
  cases gs with
  | nil => exact ⟨rfl, hV⟩
  | cons g gs => exact hV.elim
 obtain ⟨rfl, rfl⟩ := hgs
 obtain ⟨l, h1, h2⟩ := zo0 (fr := W.heap.size) hd (fun j t v h h' => hval j t v (by simpa using h) (by simpa using h')) hA (fun k hk => by
  have := List.all_eq_true.1 hsz k (zm0 hk)
  simpa using this)
 refine ((hK l h1).2 W _ hG h2).mono fun e W' ⟨v, he, hk, _, hv⟩ => ⟨v, he, ?_⟩
 simp only [rep] at hv
 subst hv
 have hB := hk.below
 have hlt := hW'.lt
 have hf := hfn ds hlen
 refine ⟨ds, [], p ++ [], [], p, [], hW', ?_, ?_, ?_, ?_, fun h => by cases h⟩
 rw [zag, hf, hres]
 exact ⟨[], [], ⟨1, by simp [DataW.trod, Value.cells, hb]⟩, rfl, rfl⟩
 rw [zag, hf]
 exact znz hl hB hr hA fun x hx => ⟨hlt x (by simp [hx]), by simpa using hlt x (by simp [hx])⟩
 rw [zag, hf, hvars]
 rfl
 exact hB.frame _
end
section
variable {P : Program} {n : Nat} {t : TypeId} {l : List D}
theorem zzc {k : IntKind} (hu : P.underlying t = some (.int k)) (h : zga P (n + 1) t l) : ∃ m, l = [.int k m] := by
 rw [zga, hu] at h; exact h
theorem zza (hu : P.underlying t = some .string) (h : zga P (n + 1) t l) : ∃ s, l = [.str s] := by
 rw [zga, hu] at h; exact h
theorem zyi {α : Type} {f : α -> D} {S : α -> Prop} {g : List D -> D} : ∀ (xs : List (List D)), (∀ x ∈ xs, ∃ y, g x = f y /\ S y) -> ∃ l : List α, xs.map g = l.map f /\ l.length = xs.length /\ ∀ y ∈ l, S y
 | [], _ => ⟨[], rfl, rfl, fun _ h => by cases h⟩
 | x :: xs, h => by
  obtain ⟨y, hy, hs⟩ := h x (by simp)
  obtain ⟨l, hl, hn, hS⟩ := zyi xs fun x hx => h x (by simp [hx])
  refine ⟨y :: l, by simp only [zah, hy, hl], by simp [hn], fun z hz => ?_⟩
  rcases List.mem_cons.1 hz with rfl | hz
  exact hs
  exact hS z hz
theorem zwh {α : Type} (f : α -> D) (S : α -> Prop) {e : TypeId} {s b : Nat} (hu : P.underlying t = some (.slice e)) (ha : aggT P t = false) (hc : P.cellsOf e = s) (hb : P.bytesOf e = b) (hx : ∀ x, zga P n e x -> ∃ y, mkD P e x = f y /\ S y) (h : zga P (n + 1) t l) :
  ∃ m : List α, mkD P t l = .imm s (m.map f) 4 /\ m.length * b <= 140737488355328 /\ ∀ y ∈ m, S y := by
 rw [zga, hu] at h
 obtain ⟨xs, rfl, hle, hxs⟩ := h
 obtain ⟨m, hm, hn, hS⟩ := zyi (f := f) (S := S) (g := mkD P e) xs fun x hx' => hx x (hxs x hx')
 exact ⟨m, by rw [zrl ha, hm, hc], by rw [hn, <- hb]; exact hle, hS⟩
theorem zzb {e : TypeId} (hu : P.underlying t = some (.slice e)) (h : zga P (n + 1) t l) : ∃ d, l = [d] := by
 rw [zga, hu] at h
 obtain ⟨xs, rfl, _⟩ := h
 exact ⟨_, rfl⟩
theorem znb {ts : List TypeId} (h : zjl P n (t :: ts) l) : ∃ c r, l = mkD P t c :: r /\ zga P n t c /\ zjl P n ts r := h
theorem ztu (h : zjl P n [] l) : l = [] := h
end
end Go.Tm
namespace Go.Proofs.YtafdfmkjjhimaaaGreatDoor.groupPuts
open Go.ChangeShapes Go.WideShapes Go.RowKit Go.Tm
set_option maxRecDepth 100000
theorem own : ownKnob Tryz.prog.godebug = none := by kernel_rfl
def sz3 (_ : Int) : Prop := True
theorem agg3 : aggT Tryz.prog 3 = false := by kernel_rfl
theorem ya5y : aggT Tryz.prog 55 = false := by kernel_rfl
def sz9 (_ : List UInt8) : Prop := True
theorem agg9 : aggT Tryz.prog 9 = false := by kernel_rfl
theorem ya89 : Tryz.prog.cellsOf 9 = 1 := by kernel_rfl
theorem ya8c : Tryz.prog.bytesOf 9 = 16 := by kernel_rfl
def sz55 (m : List (List UInt8)) : Prop := m.length * 16 <= 140737488355328 /\ ∀ y ∈ m, sz9 y
theorem tc55 {n : Nat} {l : List D} (h : zga Tryz.prog (n + 2) 55 l) : ∃ m : List (List UInt8), l = [.imm 1 (m.map D.str) 4] /\ sz55 m := by
 obtain ⟨d, hd⟩ := zzb Tryz.underlying55 h
 obtain ⟨m, hm, hs⟩ := zwh D.str sz9 Tryz.underlying55 ya5y ya89 ya8c (fun x hx => by
  obtain ⟨a, ha⟩ := zza Tryz.underlying9 hx
  have hsa : sz9 a := trivial
  exact ⟨a, ha ▸ zrl agg9, hsa⟩) h
 rw [hd, zrl ya5y] at hm
 exact ⟨m, by rw [hd, hm], hs⟩
theorem ya55 : Tryz.f7.params.toList = [3, 55] := by kernel_rfl
theorem hK (l : List D) (h : zjl Tryz.prog 8 Tryz.f7.params.toList l) : zb9 Tryz.prog 7 l (.bool true) := by
 rw [ya55] at h
 obtain ⟨c0, r0, e0, h0, h⟩ := znb h
 obtain ⟨c1, r1, e1, h1, h⟩ := znb h
 have ez := ztu h
 obtain ⟨a0, f0⟩ := zzc Tryz.underlying3 h0
 have s0 : sz3 a0 := trivial
 obtain ⟨a1, f1, s1⟩ := tc55 (n := 6) h1
 rw [e0, e1, ez, f0, f1, zrl agg3, zrl ya5y]
 exact ziq a0 a1 _ (ya7g a0 a1)
end Go.Proofs.YtafdfmkjjhimaaaGreatDoor.groupPuts

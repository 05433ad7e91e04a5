/- Texts of the proof. -/
import Derived.Scope
import Derived.Test.YtafdfmkjjhimaaaGreatDoorGroupPutsCardPd
namespace Go.Tm
open Go.RowKit Go.WideShapes
structure FP where
 w : List Nat
 m : List Nat
 nl : Nat
 nh : Nat
def zod (rd : Nat -> D) (l : List Operand) : List Nat := (l.map fun x => (ev rd x).ids).flatten
def zlq (rd : Nat -> D) (o : Op) : List Nat := match o with
 | .move _ => []
 | .assign _ => []
 | .nilCheck _ => []
 | o => zod rd o.operands.toList
def fpOf (o : Oper) (F : FrS) (out : Out) : FP :=
 {w := out.eff.map (·.1), m := zlq F.rd o.op ++ out.met, nl := out.nw.1, nh := out.nw.2 }
def disj (a b : List Nat) : Bool := a.all fun x => b.all fun y => !Nat.beq x y
def okFP (x y : FP) : Bool := disj x.w (y.w ++ y.m) && disj y.w (x.w ++ x.m) && (Nat.ble x.nh y.nl || Nat.ble y.nh x.nl)
def anc (ops : Array Oper) : Nat -> Nat -> Nat -> Bool
 | 0, _, _ => false
 | f + 1, i, j => match ops[i]? with
  | some o => o.after.toList.any fun e => Region.binds .any e && (Nat.beq e.on j || anc ops f e.on j)
  | none => false
def zzt (ops : Array Oper) (o : Oper) : List Nat := o.looksAt ops
def zty (ops : Array Oper) : Bool :=
 (List.range ops.size).all fun i => match ops[i]? with
  | some oi => (oi.after.toList.all fun e => !Region.binds .any e || Nat.blt e.on i) &&
   (List.range i).all fun j => anc ops ops.size i j || (match ops[j]? with | some oj => oj.apart ops oi | none => true)
  | none => true
def zk6 (ops : Array Oper) (fps : Nat -> FP) : Bool :=
 (List.range ops.size).all fun i => (List.range i).all fun j => okFP (fps j) (fps i) || anc ops ops.size i j
theorem zsd {a b : List Nat} (h : disj a b = true) : ∀ x ∈ a, x ∉ b := by
 intro x hx hb
 have := List.all_eq_true.1 (List.all_eq_true.1 h x hx) x hb
 simp at this
theorem zse {a b c : List Nat} (h : disj a (b ++ c) = true) : disj a b = true /\ disj a c = true := by
 simp only [disj, List.all_append, List.all_eq_true, za0] at h ⊢
 exact ⟨fun x hx => (h x hx).1, fun x hx => (h x hx).2⟩
theorem zat {g : Bool} {rd rd' : Nat -> D} {x : Operand} (h : ev rd' x = ev rd x) : opd g rd' x = opd g rd x := by
 unfold opd; rw [h]
theorem zkq {g : Bool} {rd rd' : Nat -> D} : ∀ (l : List Operand), (∀ x ∈ l, ev rd' x = ev rd x) -> opds g rd' l = opds g rd l
 | [], _ => rfl
 | x :: r, h => by simp only [opds, zat (h x (by simp)), zkq r fun y hy => h y (by simp [hy])]
theorem zrh {g : Bool} {rd rd' : Nat -> D} : ∀ (l : List (Nat × Operand)), (∀ x ∈ l, ev rd' x.2 = ev rd x.2) -> zoc g rd' l = zoc g rd l
 | [], _ => rfl
 | (i, x) :: r, h => by simp only [zoc, zat (h (i, x) (by simp)), zrh r fun y hy => h y (by simp [hy])]
theorem zpc {g : Bool} {rd rd' : Nat -> D} {x : Option Operand} (h : ∀ y ∈ x.toList, ev rd' y = ev rd y) : opdO g rd' x = opdO g rd x := by
 cases x with
 | none => rfl
 | some y => simp only [opdO, zat (h y (by simp))]
theorem zwy {g : Bool} {rd : Nat -> D} {x : Operand} {d : D} {p : Bool} (h : opd g rd x = (d, p)) : ∀ i ∈ d.ids, i ∈ (ev rd x).ids := by
 unfold opd at h
 split at h
 rename_i c d' he
 cases h
 rw [he]; simp only [D.ids]; exact fun i hi => hi
 cases h; exact fun i hi => hi
theorem zrm {rd : Nat -> D} {l : List Operand} {x : Operand} (hx : x ∈ l) {i : Nat} (hi : i ∈ (ev rd x).ids) : i ∈ zod rd l := by
 simp only [zod, List.mem_flatten, List.mem_map]
 exact ⟨_, ⟨x, hx, rfl⟩, hi⟩
theorem zx2 {hp hp' : Nat -> Option Blk} {ag : Bool} {n : Nat} {d : D} (h : ∀ i ∈ d.ids, hp' i = hp i) : zro hp' ag n d = zro hp ag n d := by
 cases d <;> simp only [zro, D.ids] at h ⊢
 rw [h _ (by simp)]
 rw [h _ (by simp)]
theorem zv5 {hp hp' : Nat -> Option Blk} {n : Nat} {d d' : D} (h : ∀ i ∈ d'.ids, hp' i = hp i) : zo1 hp' n d d' = zo1 hp n d d' := by
 cases d' <;> simp only [zo1, D.ids] at h ⊢
 rw [h _ (by simp)]
 rw [h _ (by simp)]
theorem zp6 {hp hp' : Nat -> Option Blk} {n : Nat} {d : D} (h : ∀ i ∈ d.ids, hp' i = hp i) : srcD hp' n d = srcD hp n d := by
 cases d <;> simp only [srcD, D.ids] at h ⊢
 rw [h _ (by simp)]
theorem zuv {hp hp' : Nat -> Option Blk} {dst el esz eby : Nat} {s : D} {xs : List D} {px vx : Bool} (hs : ∀ i ∈ s.ids, hp' i = hp i) : zbv hp' dst el esz eby s xs px vx = zbv hp dst el esz eby s xs px vx := by
 cases s with
 | imm s l c => cases l <;> rfl
 | ref id s' off len oc => simp only [zbv]; rw [hs id (by simp [D.ids])]
 | _ => rfl
mutual
theorem zib {hp hp' : Nat -> Option Blk} : ∀ (d : D), (∀ i ∈ d.ids, hp' i = hp i) -> lend hp' d = lend hp d
 | .ref id s off len oc, h => by simp only [lend]; rw [h id (by simp [D.ids])]
 | .agg l, h => by simp only [lend, zia l (by simpa only [D.ids] using h)]
 | .tuple l, h => by simp only [lend, zia l (by simpa only [D.ids] using h)]
 | .fn f l, h => by simp only [lend, zia l (by simpa only [D.ids] using h)]
 | .iface t d, h => by simp only [lend, zib d (by simpa only [D.ids] using h)]
 | .ptr id off, h => by simp only [lend]; rw [h id (by simp [D.ids])]
 | .eptr _ _ _ _, _ | .when _ _, _ | .bool _, _ | .int _ _, _ | .str _, _ | .imm _ _ _, _ | .iptr _ _, _ | .nilptr, _ | .nilfn, _ | .nilIface, _ | .sc, _ | .undef, _ | .mref _, _ | .nilmap, _ => by simp only [lend]
theorem zia {hp hp' : Nat -> Option Blk} : ∀ (l : List D), (∀ i ∈ D.idsL l, hp' i = hp i) -> zdm hp' l = zdm hp l
 | [], _ => by simp only [zdm]
 | d :: ds, h => by
  simp only [D.idsL, List.mem_append] at h
  simp only [zdm, zib d fun i hi => h i (.inl hi), zia ds fun i hi => h i (.inr hi)]
end
theorem zwn {hp hp' : Nat -> Option Blk} {id s off : Nat} {oc : Option Nat} {lo hi : Option D} (h : hp' id = hp id) : zvb hp' id s off oc lo hi = zvb hp id s off oc lo hi := by
 unfold zvb
 rw [h]
theorem zpz {hp hp' : Nat -> Option Blk} {d : D} (h : ∀ i ∈ d.ids, hp' i = hp i) : zk7 hp' d = zk7 hp d := by
 cases d
 case ref id s off len oc =>
  cases oc
  simp only [zk7]; rw [h id (by simp [D.ids])]
  rfl
 all_goals rfl
theorem zt5 {hp hp' : Nat -> Option Blk} {esz : Nat} {d : D} {xs : List D} {px vx : Bool} (h : ∀ i ∈ d.ids, hp' i = hp i) : zhw hp' esz d xs px vx = zhw hp esz d xs px vx := by
 cases d
 case ref id s off len oc =>
  cases oc
  simp only [zhw]; rw [h id (by simp [D.ids])]
  simp only [zhw]; rw [h id (by simp [D.ids])]
 all_goals rfl
theorem zuu {hp hp' : Nat -> Option Blk} {nid : Nat} {ti : TI} {d x : D} (h : ∀ i ∈ d.ids, hp' i = hp i) : zlo hp' nid ti d x = zlo hp nid ti d x := by
 cases d
 case ref id s' off len oc =>
  cases oc
  rfl
  cases x <;> simp only [zlo]
  rw [h id (by simp [D.ids])]
 case imm s l c => cases l <;> cases x <;> rfl
 all_goals rfl
theorem ya2k {tab : Nat -> TI} {own : Bool} {o : Op} {dst : Nat} {g : Bool} {rd rd' : Nat -> D} {hp hp' : Nat -> Option Blk} (he : ∀ x ∈ o.operands.toList, ev rd' x = ev rd x)
  (hh : ∀ i ∈ zod rd o.operands.toList, hp' i = hp i) : aop tab own o dst g rd' hp' = aop tab own o dst g rd hp := by
 have hid : ∀ {g : Bool} {x : Operand} {d : D} {p : Bool}, x ∈ o.operands.toList -> opd g rd x = (d, p) -> ∀ i ∈ d.ids, hp' i = hp i :=
  fun hx hd i hi => hh i (zrm hx (zwy hd i hi))
 cases o with
 | move x => simp only [aop, zat (he x (by simp [Op.operands]))]
 | assign x => simp only [aop, zat (he x (by simp [Op.operands]))]
 | pick c a b => simp only [aop, zat (he c (by simp [Op.operands])), zat (he a (by simp [Op.operands])), zat (he b (by simp [Op.operands]))]
 | binOp op t x y ty =>
  simp only [aop, zat (he x (by simp [Op.operands])), zat (he y (by simp [Op.operands]))]
  cases h : opd g rd x with
  | mk d p =>
   have e := zpz (d := d) (hid (by simp [Op.operands]) h)
   cases h2 : opd g rd y with
   | mk d2 q =>
    cases d
    case ref => simp only [e]
    all_goals (cases d2 <;> rfl)
 | unOp op t x => simp only [aop, zat (he x (by simp [Op.operands]))]
 | convert t t' x =>
  simp only [aop, zat (he x (by simp [Op.operands]))]
  cases h : opd g rd x with
  | mk d p => cases d <;> simp only <;> rw [zp6 (hid (by simp [Op.operands]) h)]
 | alloc t => rfl
 | box t x => simp only [aop, zat (he x (by simp [Op.operands]))]
 | build t ps => simp only [aop]; rw [zrh ps.toList fun x hx => he x.2 (by simp only [Op.operands]; exact List.mem_map.2 ⟨x, hx, rfl⟩)]
 | buildSlice t n ps => simp only [aop]; rw [zkq (ps.toList.map (·.2)) fun x hx => he x (by simpa only [Op.operands] using hx)]
 | load t x =>
  simp only [aop, zat (he x (by simp [Op.operands]))]
  cases h : opd g rd x with
  | mk d p => simp only; rw [zx2 (hid (by simp [Op.operands]) h)]
 | store t x y =>
  simp only [aop, zat (he x (by simp [Op.operands])), zat (he y (by simp [Op.operands]))]
  cases h : opd g rd x with
  | mk d p =>
   cases h' : opd g rd y with
   | mk d' p' => simp only; rw [zv5 (hid (by simp [Op.operands]) h)]
 | nilCheck x => simp only [aop, zat (he x (by simp [Op.operands]))]
 | fieldAddr t x f => simp only [aop, zat (he x (by simp [Op.operands]))]
 | field t x f => simp only [aop, zat (he x (by simp [Op.operands]))]
 | indexAddr t x y => simp only [aop, zat (he x (by simp [Op.operands])), zat (he y (by simp [Op.operands]))]
 | index t x y => simp only [aop, zat (he x (by simp [Op.operands])), zat (he y (by simp [Op.operands]))]
 | slice t x lo hi mx =>
  have h1 := zat (g := g) (he x (by simp [Op.operands]))
  have h2 : opdO g rd' lo = opdO g rd lo := zpc fun y hy => he y (by simp [Op.operands] at hy ⊢; simp [hy])
  have h3 : opdO g rd' hi = opdO g rd hi := zpc fun y hy => he y (by simp [Op.operands] at hy ⊢; simp [hy])
  cases mx with
  | some m =>
   have h4 := zat (g := g) (he m (by simp [Op.operands]))
   simp only [aop, h1, h2, h3, h4]
   cases h : opd g rd x with
   | mk d p =>
    have e := zpz (d := d) (hid (by simp [Op.operands]) h)
    cases opdO g rd lo
    cases opdO g rd hi
    cases opd g rd m
    cases d
    case ref => simp only [e]
    all_goals rfl
  | none =>
   simp only [aop, h1, h2, h3]
   cases h : opd g rd x with
   | mk d p =>
    cases d
    case ref id s off len oc => simp only; rw [zwn (hid (by simp [Op.operands]) h _ (by simp only [D.ids]; exact List.mem_singleton.2 rfl))]
    all_goals rfl
 | extract x i => simp only [aop, zat (he x (by simp [Op.operands]))]
 | makeFunc f first caps =>
  simp only [aop]
  rw [zkq caps.toList fun x hx => he x (by simp only [Op.operands, Array.toList_append, List.mem_append]; exact .inr hx)]
  have hx : ∀ x, first.toList = [x] -> opd g rd' x = opd g rd x := fun x hx => zat (he x (by simp only [Op.operands, Array.toList_append, List.mem_append]; left; rw [hx]; simp))
  split
  rfl
  rename_i hf _; rw [hx _ hf]
  rfl
 | makeInterface t x => simp only [aop, zat (he x (by simp [Op.operands]))]
 | makeSlice t x y => simp only [aop, zat (he x (by simp [Op.operands])), zat (he y (by simp [Op.operands]))]
 | makeMap t r =>
  have h2 : opdO g rd' r = opdO g rd r := zpc fun y hy => he y (by simp [Op.operands] at hy ⊢; simp [hy])
  simp only [aop, h2]
 | lookup t x y ok =>
  simp only [aop, zat (he x (by simp [Op.operands])), zat (he y (by simp [Op.operands]))]
  cases h : opd g rd x with
  | mk d p =>
   cases d <;> simp only
   rw [hid (by simp [Op.operands]) h _ (by simp only [D.ids]; exact List.mem_singleton.2 rfl)]
 | mapUpdate t x y z =>
  simp only [aop, zat (he x (by simp [Op.operands])), zat (he y (by simp [Op.operands])), zat (he z (by simp [Op.operands]))]
  cases h : opd g rd x with
  | mk d p =>
   cases d <;> simp only
   rw [hid (by simp [Op.operands]) h _ (by simp only [D.ids]; exact List.mem_singleton.2 rfl)]
 | insert t x y z =>
  simp only [aop, zat (he x (by simp [Op.operands])), zat (he y (by simp [Op.operands])), zat (he z (by simp [Op.operands]))]
  cases h : opd g rd x with
  | mk d p =>
   cases d <;> simp only
   rw [hid (by simp [Op.operands]) h _ (by simp only [D.ids]; exact List.mem_singleton.2 rfl)]
 | call c =>
  have hm : ∀ x ∈ c.args.toList, x ∈ (Op.call c).operands.toList := by
   intro x hx
   simp only [Op.operands, Call.operands, Array.toList_append, List.mem_append]
   exact .inr hx
  simp only [aop]
  split
  rename_i x t hc hca hct
  rw [zat (he x (hm x (by rw [hca]; simp)))]
  rename_i x t hc hca hct
  rw [zat (he x (hm x (by rw [hca]; simp)))]
  rename_i s x t t' hc hca hct
  rw [zat (he s (hm s (by rw [hca]; simp))), zat (he x (hm x (by rw [hca]; simp)))]
  cases h : opd g rd s with
  | mk d p =>
   cases h' : opd g rd x with
   | mk d' p' =>
    simp only
    rw [zp6 (hid (hm x (by rw [hca]; simp)) h')]
    cases srcD hp (tab t).esz d' with
    | none => rw [zuu (hid (hm s (by rw [hca]; simp)) h)]
    | some z => simp only; rw [zt5 (hid (hm s (by rw [hca]; simp)) h), zuv (hid (hm s (by rw [hca]; simp)) h)]
  ·rename_i s x t t' hc hca hct
   rw [zat (he s (hm s (by rw [hca]; simp))), zat (he x (hm x (by rw [hca]; simp)))]
   cases h : opd g rd s with
   | mk d p =>
    cases h' : opd g rd x with
    | mk d' p' =>
     cases d <;> try simp only
     cases d' <;> try simp only
     case ref.ref => rw [hid (hm s (by rw [hca]; simp)) h _ (by simp only [D.ids]; exact List.mem_singleton.2 rfl), hid (hm x (by rw [hca]; simp)) h' _ (by simp only [D.ids]; exact List.mem_singleton.2 rfl)]
     all_goals rw [zp6 (hid (hm x (by rw [hca]; simp)) h'), hid (hm s (by rw [hca]; simp)) h _ (by simp only [D.ids]; exact List.mem_singleton.2 rfl)]
  ·rename_i x t hc hca hct
   rw [zat (he x (hm x (by rw [hca]; simp)))]
   cases h : opd g rd x with
   | mk d p =>
    cases d
    case ref id s off len oc => simp only; rw [hid (hm x (by rw [hca]; simp)) h _ (by simp only [D.ids]; exact List.mem_singleton.2 rfl)]
    case imm s l k => cases l <;> rfl
    all_goals rfl
  rename_i x y hc hca
  rw [zat (he x (hm x (by rw [hca]; simp))), zat (he y (hm y (by rw [hca]; simp)))]
  rename_i x y hc hca
  rw [zat (he x (hm x (by rw [hca]; simp))), zat (he y (hm y (by rw [hca]; simp)))]
  rename_i x y t t' hc hca hct
  rw [zat (he x (hm x (by rw [hca]; simp))), zat (he y (hm y (by rw [hca]; simp)))]
  cases h : opd g rd x with
  | mk d p =>
   cases d <;> simp only
   rw [hid (hm x (by rw [hca]; simp)) h _ (by simp only [D.ids]; exact List.mem_singleton.2 rfl)]
  rfl
 | _ => rfl
theorem zyb {g : Bool} {rd : Nat -> D} : ∀ (l : List Operand) {ds : List D} {p : Bool}, opds g rd l = (ds, p) -> ∀ i ∈ D.idsL ds, i ∈ zod rd l
 | [], ds, p, h => by simp only [opds] at h; cases h; simp [D.idsL]
 | x :: r, ds, p, h => by
  simp only [opds] at h
  cases h1 : opd g rd x with
  | mk d p1 =>
   cases h2 : opds g rd r with
   | mk ds' p2 =>
    rw [h1, h2] at h
    cases h
    intro i hi
    simp only [D.idsL, List.mem_append] at hi
    rcases hi with hi | hi
    exact zrm (by simp) (zwy h1 i hi)
    have := zyb r h2 i hi
    simp only [zod, zah, List.flatten_cons, List.mem_append] at this ⊢
    exact .inr this
theorem zrv (l l' : List D) : D.idsL (l ++ l') = D.idsL l ++ D.idsL l' := by
 induction l with
 | nil => rfl
 | cons d l ih => simp only [zal, D.idsL, ih, List.append_assoc]
theorem zqp {α : Type} {l : List (Nat × α)} {i : Nat} {x : α} (h : getL l i = some x) : i ∈ l.map (·.1) := by
 induction l with
 | nil => cases h
 | cons y l ih =>
  obtain ⟨a, z⟩ := y
  simp only [getL] at h
  cases hb : Nat.beq a i
  rw [hb] at h; exact zaj _ (ih h)
  rw [nb hb]; simp
theorem zvw {α : Type} {l : List (Nat × α)} {i : Nat} (h : i ∉ l.map (·.1)) : getL l i = none := by
 cases hg : getL l i with
 | none => rfl
 | some x => exact absurd (zqp hg) h
mutual
theorem zx4 {hp hp' : Nat -> Option Blk} : ∀ (d : D), (∀ i ∈ d.ids, hp' i = hp i) -> (∀ i ∈ ids2 hp d, hp' i = hp i) -> zf9 hp' d = zf9 hp d /\ ids2 hp' d = ids2 hp d
 | .ptr id off, h, h2 => by
  have e := h id (by simp [D.ids])
  simp only [zf9, ids2, e] at h2 ⊢
  cases hb : hp id with
  | none => simp
  | some blk =>
   cases blk with
   | box cells =>
    rw [hb] at h2
    simp only [zia cells (fun i hi => h2 i hi), and_self]
   | arr _ _ _ _ => simp
   | map _ => simp
 | .fn f l, h, h2 => by
  simp only [zf9, ids2] at h2 ⊢
  obtain ⟨e1, e2⟩ := zmd l (by simpa only [D.ids] using h) h2
  exact ⟨by rw [e1], e2⟩
 | .agg l, h, _ => by simp only [zf9, ids2, zib _ h, and_self]
 | .tuple l, h, _ => by simp only [zf9, ids2, zib _ h, and_self]
 | .iface t d, h, _ => by simp only [zf9, ids2, zib _ h, and_self]
 | .ref id s off len oc, h, _ => by simp only [zf9, ids2, zib _ h, and_self]
 | .eptr _ _ _ _, h, _ | .when _ _, h, _ | .bool _, h, _ | .int _ _, h, _ | .str _, h, _ | .imm _ _ _, h, _ | .iptr _ _, h, _ | .nilptr, h, _ | .nilfn, h, _ | .nilIface, h, _ | .sc, h, _ | .undef, h, _ | .mref _, h, _ | .nilmap, h, _ => by simp only [zf9, ids2, zib _ h, and_self]
theorem zmd {hp hp' : Nat -> Option Blk} : ∀ (l : List D), (∀ i ∈ D.idsL l, hp' i = hp i) -> (∀ i ∈ zfx hp l, hp' i = hp i) -> zdb hp' l = zdb hp l /\ zfx hp' l = zfx hp l
 | [], _, _ => by simp only [zdb, zfx, and_self]
 | d :: ds, h, h2 => by
  simp only [D.idsL, List.mem_append, zfx] at h h2
  obtain ⟨e1, e2⟩ := zx4 d (fun i hi => h i (.inl hi)) (fun i hi => h2 i (.inl hi))
  obtain ⟨e3, e4⟩ := zmd ds (fun i hi => h i (.inr hi)) (fun i hi => h2 i (.inr hi))
  simp only [zdb, zfx, e1, e2, e3, e4, and_self]
end
theorem ya05 {tab : Nat -> TI} {own : Bool} {o : Op} {dst : Nat} {g : Bool} {rd rd' : Nat -> D} {hp hp' : Nat -> Option Blk} (he : ∀ x ∈ o.operands.toList, ev rd' x = ev rd x)
  (hh : ∀ i ∈ zlq rd o, hp' i = hp i) : aop tab own o dst g rd' hp' = aop tab own o dst g rd hp := by
 cases o with
 | move x => simp only [aop, zat (he x (by simp [Op.operands]))]
 | assign x => simp only [aop, zat (he x (by simp [Op.operands]))]
 | nilCheck x => simp only [aop, zat (he x (by simp [Op.operands]))]
 | _ => exact ya2k he hh
theorem zq2 {rd rd' : Nat -> D} {o : Op} (h : ∀ x ∈ o.operands.toList, ev rd' x = ev rd x) : zlq rd' o = zlq rd o := by
 have : zod rd' o.operands.toList = zod rd o.operands.toList := by
  unfold zod
  congr 1
  exact List.map_congr_left fun x hx => by rw [h x hx]
 cases o <;> first | rfl | exact this
section
variable {P : Program} {tab : Nat -> TI} {own : Bool}
theorem ztn {o : Oper} {F F' : FrS} {out : Out} (he : ∀ x ∈ o.op.operands.toList, ev F'.rd x = ev F.rd x) (hh : ∀ i ∈ zlq F.rd o.op ++ out.met, F'.hp i = F.hp i)
  (hn : ∀ i, out.nw.1 <= i -> i < out.nw.2 -> F.nu i = true -> F'.nu i = true) (h : Core P tab own o F out) : Core P tab own o F' out := by
 have hh0 : ∀ i ∈ zlq F.rd o.op, F'.hp i = F.hp i := fun i hi => hh i (List.mem_append_left _ hi)
 have plain : (∃ nid, aop tab own o.op nid true F.rd F.hp = some out /\ out.vc = true /\ (out.nw = (nid, nid + 1) -> F.nu nid = true)) -> ∃ nid, aop tab own o.op nid true F'.rd F'.hp = some out /\ out.vc = true /\ (out.nw = (nid, nid + 1) -> F'.nu nid = true) := by
  rintro ⟨nid, h1, h2, h3⟩
  exact ⟨nid, (ya05 he hh0).trans h1, h2, fun e => hn nid (by rw [e]; exact za4 _) (by rw [e]; exact Nat.lt_succ_self _) (h3 e)⟩
 unfold Core at *
 split at h
 ·rename_i c hop
  split at h
  ·rename_i f hc
   have hh1 : ∀ i ∈ zod F.rd o.op.operands.toList, F'.hp i = F.hp i := fun i hi => hh0 i (by rw [hop] at hi ⊢; exact hi)
   rcases h with h | ⟨K, pre, ds, r, H, eff, nw, h1, h3, g1, g2, g3, g4, rfl⟩
   case inr =>
    have hmf : f ∈ o.op.operands.toList := by rw [hop]; simp [Op.operands, Call.operands, hc]
    have hma : ∀ x ∈ c.args.toList, x ∈ o.op.operands.toList := by
     intro x hx
     rw [hop]
     simp only [Op.operands, Call.operands, hc, Array.toList_append, List.mem_append]
     exact .inr hx
    refine .inr ⟨K, pre, ds, r, H, eff, nw, by rw [zat (he f hmf)]; exact h1, by rw [zkq _ fun x hx => he x (hma x hx)]; exact h3, g1, fun id b hb => ?_, fun id k1 k2 => hn id k1 k2 (g3 id k1 k2), g4, rfl⟩
    rw [hh id (List.mem_append_right _ (zqp hb))]
    exact g2 id b hb
   refine .inl ?_
   obtain ⟨K, caps, p, ds, q, r, h1, h2, h3, h4, h5⟩ := h
   have hmf : f ∈ o.op.operands.toList := by rw [hop]; simp [Op.operands, Call.operands, hc]
   have hma : ∀ x ∈ c.args.toList, x ∈ o.op.operands.toList := by
    intro x hx
    rw [hop]
    simp only [Op.operands, Call.operands, hc, Array.toList_append, List.mem_append]
    exact .inr hx
   have hids : ∀ i ∈ D.idsL (ds ++ caps), F'.hp i = F.hp i := by
    refine fun i hi => hh1 i ?_
    rw [zrv, List.mem_append] at hi
    rcases hi with hi | hi
    have hx := zyb _ h3 i hi
    simp only [zod, List.mem_flatten, List.mem_map] at hx ⊢
    obtain ⟨_, ⟨x, hx, rfl⟩, hix⟩ := hx
    exact ⟨_, ⟨x, hma x hx, rfl⟩, hix⟩
    refine zrm hmf (zwy h1 i ?_)
    simpa only [D.ids] using hi
   have hl : zdm F'.hp (ds ++ caps) = zdm F.hp (ds ++ caps) := zia _ hids
   refine ⟨K, caps, p, ds, q, r, by rw [zat (he f hmf)]; exact h1, h2, by rw [zkq _ fun x hx => he x (hma x hx)]; exact h3, h4, ?_⟩
   rcases h5 with ⟨g1, g2, g3⟩ | ⟨H, eff, nw, g1, g2, g3, g4, rfl⟩ | ⟨i, j, g1, g2, rfl⟩ | ⟨eff, nw, g1, g2, rfl⟩
   exact .inl ⟨by rw [hl]; exact g1, by rw [hl]; exact g2, g3⟩
   refine .inr (.inl ⟨H, eff, nw, g1, fun id b hb => ?_, fun id k1 k2 => hn id k1 k2 (g3 id k1 k2), g4, rfl⟩)
   rw [hh id (List.mem_append_right _ (zqp hb))]
   exact g2 id b hb
   obtain ⟨s, o', n', c', s', o2, n2, c2, e, z, pp, l, e', z', pp', l', hds, hb1, hb2, hij⟩ := g2
   exact .inr (.inr (.inl ⟨i, j, g1, ⟨s, o', n', c', s', o2, n2, c2, e, z, pp, l, e', z', pp', l', hds, (hh i (List.mem_append_right _ (by simp))).trans hb1, (hh j (List.mem_append_right _ (by simp))).trans hb2, hij⟩, rfl⟩))
   obtain ⟨e1, e2⟩ := zmd (ds ++ caps) hids (fun i hi => hh i (List.mem_append_right _ hi))
   refine .inr (.inr (.inr ⟨eff, nw, by rw [e1]; exact g1, ?_, by rw [e2]⟩))
   rw [e1]
   rcases g2 with g2 | ⟨k1, k2, k3, k4, k5⟩
   exact .inl g2
   exact .inr ⟨k1, k2, k3, k4, fun id m1 m2 => hn id m1 m2 (k5 id m1 m2)⟩
  exact plain h
 exact plain h
theorem zno {ops : Array Oper} {o : Oper} {F F' : FrS} (h : ∀ t ∈ zzt ops o, F'.rd t = F.rd t) : ∀ x ∈ o.op.operands.toList, ev F'.rd x = ev F.rd x := by
 intro x hx
 cases x with
 | tmp t =>
  refine h t ?_
  simp only [zzt, Oper.looksAt, List.mem_append, List.mem_filterMap]
  exact .inl ⟨.tmp t, hx, rfl⟩
 | _ => rfl
theorem znn {ops : Array Oper} {o : Oper} {F F' : FrS} {out : Out} (h : ∀ t ∈ zzt ops o, F'.rd t = F.rd t) (hh : ∀ i ∈ zlq F.rd o.op ++ out.met, F'.hp i = F.hp i)
  (hn : ∀ i, out.nw.1 <= i -> i < out.nw.2 -> F.nu i = true -> F'.nu i = true) (hf : zk5 P tab own ops o F out) :
  zk5 P tab own ops o F' out := by
 have he := zno h
 unfold zk5 at *
 split at hf
 exact ztn he hh hn hf
 rename_i j want hg
 obtain ⟨t, g, out0, h1, h2, h3, rfl⟩ := hf
 refine ⟨t, g, out0, h1, ?_, fun hgt => ztn he hh ?_ (h3 hgt), rfl⟩
 rw [h t ?_]
 exact h2
 simp only [zzt, Oper.looksAt, List.mem_append]
 right
 simp only [hg]
 simp only [zmg] at h1
 rw [h1]
 simp
 subst hgt
 exact hn
def Step (P : Program) (tab : Nat -> TI) (own : Bool) (ops : Array Oper) (outs : Nat -> Out) (fps : Nat -> FP) (i : Nat) (F : FrS) : Prop := ∃ o, ops[i]? = some o /\ zk5 P tab own ops o F (outs i) /\ fpOf o F (outs i) = fps i
def FrS.at (ops : Array Oper) (outs : Nat -> Out) (i : Nat) (F : FrS) : FrS := match ops[i]? with
 | some o => F.app o (outs i)
 | none => F
theorem ziz {F : FrS} {o : Oper} {out : Out} {t : Nat} (h : o.dst ≠ some t) : (F.app o out).rd t = F.rd t := by
 have : (o.dst == some t) = false := by simpa using h
 simp [FrS.app, FrS.put, FrS.eff, this]
theorem zp2 {F : FrS} {o : Oper} {out : Out} {t : Nat} (h : o.dst = some t) : (F.app o out).rd t = out.d := by
 simp [FrS.app, FrS.put, h]
theorem zsx {F : FrS} {o : Oper} {out : Out} : (F.app o out).hp = effH F.hp out.eff := rfl
theorem zsw {F : FrS} {o : Oper} {out : Out} : (F.app o out).nu = effN F.nu out.nw := rfl
theorem zsa {hp : Nat -> Option Blk} {eff : List (Nat × Option Blk)} {i : Nat} (h : i ∉ eff.map (·.1)) : effH hp eff i = hp i := by
 unfold effH; rw [zvw h]
theorem ya0s {ops : Array Oper} {outs : Nat -> Out} {fps : Nat -> FP} {i j : Nat} {oi oj : Oper} {F : FrS} (hi : ops[i]? = some oi) (hj : ops[j]? = some oj) (hap : oj.apart ops oi = true) (hok : okFP (fps j) (fps i) = true)
  (h1 : Step P tab own ops outs fps j F) (h2 : Step P tab own ops outs fps i (FrS.at ops outs j F)) :
  Step P tab own ops outs fps i F /\ Step P tab own ops outs fps j (FrS.at ops outs i F) /\ FrS.at ops outs i (FrS.at ops outs j F) = FrS.at ops outs j (FrS.at ops outs i F) := by
 obtain ⟨a1, a2, a3⟩ := Oper.apart_spec hap
 obtain ⟨oj', hj', fj, pj⟩ := h1
 rw [hj] at hj'; cases hj'
 obtain ⟨oi', hi', fi, pi⟩ := h2
 rw [hi] at hi'; cases hi'
 have atj : ∀ G, FrS.at ops outs j G = G.app oj (outs j) := fun G => by simp [FrS.at, hj]
 have ati : ∀ G, FrS.at ops outs i G = G.app oi (outs i) := fun G => by simp [FrS.at, hi]
 rw [atj] at fi pi
 simp only [ati, atj]
 simp only [okFP, za0, zas] at hok
 obtain ⟨⟨k1, k2⟩, k3⟩ := hok
 obtain ⟨k1w, k1m⟩ := zse k1
 obtain ⟨k2w, k2m⟩ := zse k2
 have wj : (fps j).w = (outs j).eff.map (·.1) := by rw [<- pj]; rfl
 have wi : (fps i).w = (outs i).eff.map (·.1) := by rw [<- pi]; rfl
 have nj : (fps j).nl = (outs j).nw.1 /\ (fps j).nh = (outs j).nw.2 := by rw [<- pj]; exact ⟨rfl, rfl⟩
 have ni : (fps i).nl = (outs i).nw.1 /\ (fps i).nh = (outs i).nw.2 := by rw [<- pi]; exact ⟨rfl, rfl⟩
 have mj : (fps j).m = zlq F.rd oj.op ++ (outs j).met := by rw [<- pj]; rfl
 have look_i : ∀ t ∈ zzt ops oi, F.rd t = (F.app oj (outs j)).rd t := by
  intro t ht
  rw [ziz fun e => a1 t e ht]
 have opi : zlq F.rd oi.op = zlq (F.app oj (outs j)).rd oi.op := zq2 (zno look_i)
 have mi : (fps i).m = zlq (F.app oj (outs j)).rd oi.op ++ (outs i).met := by rw [<- pi]; rfl
 have si : Step P tab own ops outs fps i F := by
  refine ⟨oi, hi, znn look_i ?_ ?_ fi, ?_⟩
  intro id hid
  rw [<- mi] at hid
  rw [zsx, zsa]
  intro h
  rw [<- wj] at h
  exact zsd k1m id h hid
  intro id _ _ h
  rw [zsw] at h
  simp only [effN, za0] at h
  exact h.1
  rw [<- pi]; simp only [fpOf, opi]
 have look_j : ∀ t ∈ zzt ops oj, (F.app oi (outs i)).rd t = F.rd t := by
  intro t ht
  rw [ziz fun e => a3 t e ht]
 have sj : Step P tab own ops outs fps j (F.app oi (outs i)) := by
  refine ⟨oj, hj, znn look_j ?_ ?_ fj, ?_⟩
  intro id hid
  rw [<- mj] at hid
  rw [zsx, zsa]
  intro h
  rw [<- wi] at h
  exact zsd k2m id h hid
  intro id h1 h2 h
  rw [zsw]
  simp only [effN, h, Bool.true_and, Bool.not_eq_true', Bool.and_eq_false_iff, decide_eq_false_iff_not]
  rcases k3 with k | k
  have := lb k
  rw [nj.2, ni.1] at this
  left; omega
  have := lb k
  rw [nj.1, ni.2] at this
  right; omega
  rw [<- pj]; simp only [fpOf, zq2 (zno look_j)]
 refine ⟨si, sj, ?_⟩
 have e1 : ∀ t, ((F.app oj (outs j)).app oi (outs i)).rd t = ((F.app oi (outs i)).app oj (outs j)).rd t := by
  intro t
  by_cases ei : oi.dst = some t
  have ej : oj.dst ≠ some t := fun e => a2 t e ei
  rw [zp2 ei, ziz ej, zp2 ei]
  by_cases ej : oj.dst = some t
  rw [ziz ei, zp2 ej, zp2 ej]
  rw [ziz ei, ziz ej, ziz ej, ziz ei]
 have e2 : ((F.app oj (outs j)).app oi (outs i)).hp = ((F.app oi (outs i)).app oj (outs j)).hp := by
  rw [zsx, zsx, zsx, zsx]
  funext id
  unfold effH
  cases gi : getL (outs i).eff id with
  | some b =>
   have hiw : id ∈ (fps i).w := by rw [wi]; exact zqp gi
   have hjn : id ∉ (outs j).eff.map (·.1) := fun h => zsd k1w id (by rw [wj]; exact h) hiw
   rw [zvw hjn]
  | none => cases gj : getL (outs j).eff id <;> rfl
 have e3 : ((F.app oj (outs j)).app oi (outs i)).nu = ((F.app oi (outs i)).app oj (outs j)).nu := by
  rw [zsw, zsw, zsw, zsw]
  funext id
  unfold effN
  rw [Bool.and_assoc, Bool.and_assoc]
  congr 1
  exact Bool.and_comm _ _
 have : ∀ (A B : FrS), (∀ t, A.rd t = B.rd t) -> A.hp = B.hp -> A.nu = B.nu -> A = B := by
  intro A B h h' h''
  cases A; cases B
  simp only [FrS.mk.injEq]
  exact ⟨funext h, h', h''⟩
 exact this _ _ e1 e2 e3
inductive RunS (P : Program) (tab : Nat -> TI) (own : Bool) (ops : Array Oper) (outs : Nat -> Out) (fps : Nat -> FP) : List Nat -> FrS -> FrS -> Prop where
 | nil (F : FrS) : RunS P tab own ops outs fps [] F F
 | cons {i : Nat} {l : List Nat} {F F' : FrS} (hs : Step P tab own ops outs fps i F) (h : RunS P tab own ops outs fps l (FrS.at ops outs i F) F') : RunS P tab own ops outs fps (i :: l) F F'
theorem ya4h {ops : Array Oper} {outs : Nat -> Out} {fps : Nat -> FP} {i : Nat} {oi : Oper} (hi : ops[i]? = some oi) : ∀ (l1 l2 : List Nat) (F F' : FrS),
  (∀ j ∈ l1, ∃ oj, ops[j]? = some oj /\ oj.apart ops oi = true /\ okFP (fps j) (fps i) = true) -> RunS P tab own ops outs fps (l1 ++ i :: l2) F F' -> RunS P tab own ops outs fps (i :: (l1 ++ l2)) F F'
 | [], l2, F, F', _, h => h
 | j :: l1, l2, F, F', hl, h => by
  cases h with
  | cons hs h =>
   have := ya4h hi l1 l2 _ _ (fun k hk => hl k (by simp [hk])) h
   cases this with
   | cons hs' h' =>
    obtain ⟨oj, hj, hap, hok⟩ := hl j (by simp)
    obtain ⟨s1, s2, e⟩ := ya0s hi hj hap hok hs hs'
    refine .cons s1 (.cons s2 ?_)
    rw [<- e]
    exact h'
theorem zv6 {l : List Nat} (hs : l.Pairwise (· < ·)) {i : Nat} (hi : i ∈ l) : ∃ l1 l2, l = l1 ++ i :: l2 /\ ∀ j ∈ l1, j < i := by
 obtain ⟨l1, l2, rfl⟩ := List.append_of_mem hi
 refine ⟨l1, l2, rfl, fun j hj => ?_⟩
 rw [List.pairwise_append] at hs
 exact hs.2.2 j hj i (by simp)
def ya4k (ops : Array Oper) (listed : Array Bool) : Prop :=
 ∀ i o, ops[i]? = some o -> listed.getD i false = true -> ∀ e ∈ o.after, Region.binds .any e = true -> listed.getD e.on false = true
theorem ztr {ops : Array Oper} {listed : Array Bool} (hc : ya4k ops listed) : ∀ (f i j : Nat) (o : Oper), ops[i]? = some o -> (∀ e ∈ o.after, Region.binds .any e = true -> listed.getD e.on false = true) -> anc ops f i j = true -> listed.getD j false = true
 | 0, i, j, o, _, _, h => by simp [anc] at h
 | f + 1, i, j, o, hi, hb, h => by
  simp only [anc, hi, List.any_eq_true, za0, zas] at h
  obtain ⟨e, he, hbe, h⟩ := h
  have hl := hb e (by simpa using he) hbe
  rcases h with h | h
  rwa [nb h] at hl
  cases ho : ops[e.on]? with
  | none =>
   cases f with
   | zero => simp [anc] at h
   | succ f => simp [anc, ho] at h
  | some oe => exact ztr hc f e.on j oe ho (hc e.on oe ho hl) h
section
variable {E : En} {n : Nat}
theorem zr1 (hT : zgy P tab) {ops : Array Oper} (hok : zwx n ops = true) (hsl : zty ops = true) {outs : Nat -> Out} {fps : Nat -> FP} (hsc : zk6 ops fps = true) {F' : FrS} {Q : Exit -> Act -> World -> Prop}
  (hQ : ∀ a' w' g', Rel E n F' a' w' g' -> Q .normal a' w') : ∀ (fuel : Nat) (listed : Array Bool) (L : List Nat) (F : FrS) (a : Act) (w : World) (g : Gh),
  L.length = fuel -> L.Pairwise (· < ·) -> (∀ i, i ∈ L ↔ i < ops.size /\ listed.getD i true = false) -> listed.size = ops.size -> ya4k ops listed -> RunS P tab own ops outs fps L F F' -> Rel E n F a w g ->
  wpAny P .any ops Q fuel listed a w
 | 0, listed, L, F, a, w, σ, hl, hs, hm, hsz, hcl, hrun, hR => by
  have hL : L = [] := zad hl
  subst hL
  cases hrun
  refine ⟨?_, hQ _ _ _ hR⟩
  apply List.eq_nil_iff_forall_not_mem.2
  intro i hi
  obtain ⟨h1, o, h2, _⟩ := mem_ready.1 hi
  have := (hm i).2 ⟨(Array.getElem?_eq_some_iff.1 h2).1, h1⟩
  cases this
 | fuel + 1, listed, L, F, a, w, σ, hl, hs, hm, hsz, hcl, hrun, hR => by
  refine ⟨fun hr => ?_, fun i hi => ?_⟩
  -- the first that is left is ready
  exfalso
  cases L with
  | nil => simp at hl
  | cons i L =>
   have hiL := (hm i).1 (by simp)
   have hlt := hiL.1
   have ho : ops[i]? = some ops[i] := Array.getElem?_eq_getElem hlt
   have : i ∈ Region.ready .any ops listed := by
    refine mem_ready.2 ⟨hiL.2, ops[i], ho, fun e he hb => ?_⟩
    have := List.all_eq_true.1 hsl i (by simpa using hlt)
    simp only [ho, za0, List.all_eq_true] at this
    have hbk := this.1 e (by simpa using he)
    rw [hb] at hbk
    simp only [Bool.not_true, Bool.false_or] at hbk
    have hblt : e.on < i := by
     have := lb hbk
     omega
    cases hle : listed.getD e.on false with
    | true => rfl
    | false =>
     exfalso
     have hnl : listed.getD e.on true = false := by
      have : e.on < listed.size := by omega
      simp only [Array.getD, this, dite_true] at hle ⊢
      exact hle
     have := (hm e.on).2 ⟨by omega, hnl⟩
     rcases List.mem_cons.1 this with h | h
     omega
     have := (List.pairwise_cons.1 hs).1 e.on h
     omega
   rw [hr] at this
   cases this
  ·obtain ⟨h1, oi, ho, hb⟩ := mem_ready.1 hi
   have hlt : i < ops.size := (Array.getElem?_eq_some_iff.1 ho).1
   have hiL := (hm i).2 ⟨hlt, h1⟩
   obtain ⟨l1, l2, rfl, hl1⟩ := zv6 hs hiL
   have hbub := ya4h ho l1 l2 F F' (by
    intro j hj
    have hji := hl1 j hj
    have hjl := (hm j).1 (by simp [hj])
    have hoj : ops[j]? = some ops[j] := Array.getElem?_eq_getElem hjl.1
    have hnanc : anc ops ops.size i j = false := by
     cases ha : anc ops ops.size i j with
     | false => rfl
     | true =>
      have := ztr hcl _ i j oi ho hb ha
      have h2 := hjl.2
      have : j < listed.size := by omega
      simp only [Array.getD, this, dite_true] at *
      simp_all
    refine ⟨ops[j], hoj, ?_, ?_⟩
    have := List.all_eq_true.1 hsl i (by simpa using hlt)
    simp only [ho, za0] at this
    have := List.all_eq_true.1 this.2 j (by simpa using hji)
    simpa [hnanc, hoj] using this
    have := List.all_eq_true.1 (List.all_eq_true.1 hsc i (by simpa using hlt)) j (by simpa using hji)
    simpa [hnanc] using this) hrun
   cases hbub with
   | cons hstep hrest =>
    obtain ⟨o', ho', hf, _⟩ := hstep
    rw [ho] at ho'; cases ho'
    obtain ⟨g1, g2, g3⟩ := zu7 hok ho
    refine znm hT ho g1 g2 g3 hR hf fun v w' g' hrel => ?_
    have hat : FrS.at ops outs i F = F.app oi (outs i) := by simp [FrS.at, ho]
    rw [hat] at hrest
    refine zr1 hT hok hsl hsc hQ fuel _ (l1 ++ l2) _ _ _ _ (by simp at hl ⊢; omega) ?_ ?_ (by simp [hsz]) ?_ hrest hrel
    rw [List.pairwise_append] at hs ⊢
    exact ⟨hs.1, (List.pairwise_cons.1 hs.2.1).2, fun x hx y hy => hs.2.2 x hx y (by simp [hy])⟩
    intro k
    have hmk := hm k
    simp only [List.mem_append, List.mem_cons] at hmk ⊢
    by_cases hki : k = i
    subst hki
    constructor
    intro h
    exfalso
    rcases h with h | h
    exact absurd (hl1 k h) (by omega)
    rw [List.pairwise_append] at hs
    have := (List.pairwise_cons.1 hs.2.1).1 k h
    omega
    rintro ⟨_, h⟩
    exfalso
    have : k < listed.size := by omega
    simp [Array.getD, this] at h
    rw [getD_set_ne true (fun e => hki e.symm)]
    rw [<- hmk]
    constructor
    rintro (h | h)
    exact .inl h
    exact .inr (.inr h)
    rintro (h | h | h)
    exact .inl h
    exact absurd h hki
    exact .inr h
    intro k o hk hlk e he hbe
    by_cases hki : k = i
    subst hki
    rw [ho] at hk; cases hk
    exact getD_set_true (hb e he hbe)
    rw [getD_set_ne false (fun e => hki e.symm)] at hlk
    exact getD_set_true (hcl k o hk hlk e he hbe)
theorem zws (hT : zgy P tab) (hm : P.follows .mixedOrders = true) {id : Nat} {ops : Array Oper} (hok : zwx n ops = true) (hsl : zty ops = true) {outs : Nat -> Out} {fps : Nat -> FP} (hsc : zk6 ops fps = true)
  {F F' : FrS} {a : Act} {w : World} {g : Gh} {Q : Exit -> Act -> World -> Prop} (hrun : RunS P tab own ops outs fps (List.range ops.size) F F') (hR : Rel E n F a w g)
  (hQ : ∀ a' w' g', Rel E n F' a' w' g' -> Q .normal a' w') : (Code.region id ops true).wp P Q a w := by
 refine wp_region_any hm ?_
 refine zr1 hT hok hsl hsc hQ ops.size _ (List.range ops.size) F a _ g (by simp) List.pairwise_lt_range ?_ (by simp) ?_ hrun (Rel.ext hR (Keep.refl _ w).drew)
 intro i
 simp only [List.mem_range]
 constructor
 intro h; exact ⟨h, by simp [Array.getD, h]⟩
 exact fun h => h.1
 intro i o hi hl
 exfalso
 have : i < ops.size := (Array.getElem?_eq_some_iff.1 hi).1
 simp [Array.getD, this] at hl
end
end
end Go.Tm
namespace Go.Tm
open Go.RowKit Go.WideShapes
structure St where
 vars : List (Nat × D)
 heap : List (Nat × Blk)
 nx : Nat
def put {α : Type} : List (Nat × α) -> Nat -> α -> List (Nat × α)
 | [], t, y => [(t, y)]
 | (a, x) :: r, t, y => bif Nat.beq a t then (a, y) :: r else (a, x) :: put r t y
def del {α : Type} : List (Nat × α) -> Nat -> List (Nat × α)
 | [], _ => []
 | (a, x) :: r, t => bif Nat.beq a t then del r t else (a, x) :: del r t
def effL (h : List (Nat × Blk)) : List (Nat × Option Blk) -> List (Nat × Blk)
 | [] => h
 | (a, some x) :: r => put (effL h r) a x
 | (a, none) :: r => del (effL h r) a
def keep {α : Type} (V : List Nat) : List (Nat × α) -> List (Nat × α)
 | [] => []
 | (a, x) :: r => bif V.any (Nat.beq a) then (a, x) :: keep V r else keep V r
def getR (l : List (Nat × D)) (t : Nat) : D := match getL l t with
 | some d => d
 | none => .undef
def St.fs (lim : Nat) (st : St) : FrS := ⟨getR st.vars, getL st.heap, fun id => decide (st.nx <= id) && decide (id < lim)⟩
def St.app (st : St) (dst : Option Nat) (out : Out) : St :=
 ⟨match dst with | some t => put st.vars t out.d | none => st.vars, effL st.heap out.eff, bif Nat.blt out.nw.1 out.nw.2 then out.nw.2 else st.nx⟩
theorem zgb {α : Type} (l : List (Nat × α)) (t : Nat) (y : α) (u : Nat) : getL (put l t y) u = if t = u then some y else getL l u := by
 induction l with
 | nil =>
  by_cases h : t = u
  subst h; simp [put, getL]
  simp [put, getL, zdi h, h]
 | cons x l ih =>
  obtain ⟨a, z⟩ := x
  simp only [put]
  cases hat : Nat.beq a t
  simp only [cond_false, getL]
  cases hau : Nat.beq a u
  simp only [cond_false]; exact ih
  have := nb hau
  subst this
  have hne : t ≠ a := fun e => by subst e; simp at hat
  simp [hne]
  have := nb hat
  subst this
  simp only [cond_true, getL]
  cases hau : Nat.beq a u
  have hne : a ≠ u := fun e => by subst e; simp at hau
  simp [hne]
  have := nb hau
  subst this
  simp
theorem ya3m {α : Type} (l : List (Nat × α)) (t u : Nat) : getL (del l t) u = if t = u then none else getL l u := by
 induction l with
 | nil => simp [del, getL]
 | cons x l ih =>
  obtain ⟨a, z⟩ := x
  simp only [del]
  cases hat : Nat.beq a t
  simp only [cond_false, getL]
  cases hau : Nat.beq a u
  simp only [cond_false]; exact ih
  have := nb hau
  subst this
  have hne : t ≠ a := fun e => by subst e; simp at hat
  simp [hne]
  have := nb hat
  subst this
  simp only [cond_true, getL]
  rw [ih]
  by_cases e : a = u
  simp [e]
  simp [e, zdi e]
theorem zok (h : List (Nat × Blk)) (l : List (Nat × Option Blk)) : getL (effL h l) = effH (getL h) l := by
 induction l with
 | nil => simp only [effL]; rw [zqq]
 | cons x l ih =>
  obtain ⟨a, z⟩ := x
  funext t
  cases z with
  | some b =>
   simp only [effL, zgb, ih, effH, getL]
   by_cases e : a = t
   subst e; simp
   simp [e, zdi e]
  | none =>
   simp only [effL, ya3m, ih, effH, getL]
   by_cases e : a = t
   subst e; simp
   simp [e, zdi e]
def FrS.on (F : FrS) (lim : Nat) (st : St) : Prop := F.rd = getR st.vars /\ F.hp = getL st.heap /\ ∀ id, st.nx <= id -> id < lim -> F.nu id = true
theorem ya1e {F : FrS} {lim : Nat} {st : St} (h : F.on lim st) (o : Oper) (out : Out) (hn : ∀ id, out.nw.1 <= id -> id < out.nw.2 -> st.nx <= id) : (F.app o out).on lim (st.app o.dst out) := by
 obtain ⟨h1, h2, h3⟩ := h
 refine ⟨?_, ?_, ?_⟩
 funext u
 simp only [FrS.app, FrS.put, FrS.eff, St.app, h1]
 cases o.dst with
 | none => simp
 | some t =>
  simp only [getR, zgb]
  by_cases e : t = u
  subst e; simp
  have : (some t == some u) = false := by simpa using e
  simp [e, this]
 simp only [zsx, St.app, h2, zok]
 intro id k1 k2
 rw [zsw]
 simp only [St.app] at k1
 simp only [effN, za0, Bool.not_eq_true', Bool.and_eq_false_iff, decide_eq_false_iff_not]
 cases hb : Nat.blt out.nw.1 out.nw.2
 rw [hb] at k1
 refine ⟨h3 id k1 k2, ?_⟩
 have : ¬ out.nw.1 < out.nw.2 := by
  intro h
  have : Nat.blt out.nw.1 out.nw.2 = true := zam h
  rw [hb] at this; cases this
 by_cases h : out.nw.1 <= id
 right; omega
 exact .inl h
 rw [hb] at k1
 simp only [cond_true] at k1
 have hlt : out.nw.1 < out.nw.2 := lb hb
 have := hn out.nw.1 (za4 _) hlt
 exact ⟨h3 id (by omega) k2, .inr (by omega)⟩
theorem zuo {P tab own} {ops : Array Oper} {o : Oper} {F : FrS} {lim : Nat} {st : St} {out : Out} (h : F.on lim st) (hf : zk5 P tab own ops o (st.fs lim) out) : zk5 P tab own ops o F out := by
 obtain ⟨h1, h2, h3⟩ := h
 refine znn (F := st.fs lim) (fun t _ => by rw [h1]; rfl) (fun i _ => by rw [h2]; rfl) (fun i _ _ hi => ?_) hf
 simp only [St.fs, za0, decide_eq_true_eq] at hi
 exact h3 i hi.1 hi.2
inductive Chain (P : Program) (tab : Nat -> TI) (own : Bool) (lim : Nat) (ops : Array Oper) : List Oper -> St -> List (Out × FP) -> St -> Prop where
 | nil (st : St) : Chain P tab own lim ops [] st [] st
 | cons {o : Oper} {l : List Oper} {st st' : St} {out : Out} {os : List (Out × FP)} (hf : zk5 P tab own ops o (st.fs lim) out) (hn : ∀ id, out.nw.1 <= id -> id < out.nw.2 -> st.nx <= id) (h : Chain P tab own lim ops l (st.app o.dst out) os st') :
   Chain P tab own lim ops (o :: l) st ((out, fpOf o (st.fs lim) out) :: os) st'
def WRun (P : Program) (tab : Nat -> TI) (own : Bool) (lim : Nat) (ops : Array Oper) (l : List Oper) (st : St) (acc : List FP) (Q : St -> List FP -> Prop) : Prop :=
 ∃ os st', Chain P tab own lim ops l st os st' /\ Q st' (acc ++ os.map (·.2))
theorem WRun.nil {P tab own lim ops st acc Q} (h : Q st acc) : WRun P tab own lim ops [] st acc Q := ⟨[], st, .nil st, by simpa using h⟩
def zq6 : List Oper -> Nat -> Option Nat
 | [], _ => none
 | o :: _, 0 => o.dst
 | _ :: r, j + 1 => zq6 r j
theorem zlk (l : List Oper) (j : Nat) : zq6 l j = (l[j]?).bind (·.dst) := by
 induction l generalizing j with
 | nil => rfl
 | cons o l ih => cases j <;> simp [zq6, ih]
def zj1 (o : Oper) : Bool := match o.op with
 | .call c => match c.callee with
  | .value _ => true
  | .invoke _ _ => true
  | _ => false
 | _ => false
def nwB (nx : Nat) (nw : Nat × Nat) : Bool := (Nat.beq nw.1 0 && Nat.beq nw.2 0) || (Nat.beq nw.1 nx && Nat.beq nw.2 (nx + 1))
def zt2 (tab : Nat -> TI) (own : Bool) (ops : List Oper) (o : Oper) (st : St) : Option (Out × Bool) :=
 match o.guard with
 | none => match aop tab own o.op st.nx true (getR st.vars) (getL st.heap) with
  | some out => some (out, out.vc && nwB st.nx out.nw)
  | none => none
 | some (j, want) => match zq6 ops j with
  | none => none
  | some t => match gval want (getR st.vars t) with
   | none => none
   | some g => match aop tab own o.op st.nx g (getR st.vars) (getL st.heap) with
    | some out => some ({ d := .when g out.d, vc := true, met := out.met }, (!g || out.vc) && out.eff.isEmpty && Nat.beq out.nw.1 0 && Nat.beq out.nw.2 0)
    | none => some ({ d := .when g .undef, vc := true }, !g)
theorem zyc {nx : Nat} {nw : Nat × Nat} (h : nwB nx nw = true) : nw = (0, 0) \/ nw = (nx, nx + 1) := by
 unfold nwB at h
 simp only [zas, za0] at h
 rcases h with ⟨h1, h2⟩ | ⟨h1, h2⟩
 ·left
  have h1 := nb h1
  have h2 := nb h2
  cases nw; simp_all
 ·right
  have h1 := nb h1
  have h2 := nb h2
  cases nw; simp_all
theorem ztx {tab : Nat -> TI} {own : Bool} {ops : List Oper} {o : Oper} {st : St} {out : Out} {v : Bool} (h : zt2 tab own ops o st = some (out, v)) (hv : v = true) : out.nw = (0, 0) \/ out.nw = (st.nx, st.nx + 1) := by
 unfold zt2 at h
 split at h
 split at h
 cases h
 simp only [za0] at hv
 exact zyc hv.2
 cases h
 split at h
 cases h
 split at h
 cases h
 split at h
 cases h
 exact .inl rfl
 cases h
 exact .inl rfl
theorem ya2i {st : St} {dst : Option Nat} {out : Out} (h : out.nw = (0, 0) \/ out.nw = (st.nx, st.nx + 1)) : st.nx <= (st.app dst out).nx := by
 unfold St.app
 rcases h with h | h <;> rw [h]
 show st.nx <= st.nx
 exact za4 _
 have : Nat.blt st.nx (st.nx + 1) = true := zam (za4 _)
 simp only [this, cond_true]
 omega
theorem zqz {P tab own lim} {ops : Array Oper} {o : Oper} {st : St} {out : Out} {v : Bool} (hc : zj1 o = false) (h : zt2 tab own ops.toList o st = some (out, v)) (hv : v = true) (hlim : (st.app o.dst out).nx <= lim) : zk5 P tab own ops o (st.fs lim) out /\ ∀ id, out.nw.1 <= id -> id < out.nw.2 -> st.nx <= id := by
 have hnw := ztx h hv
 refine ⟨?_, ?_⟩
 ·have core : ∀ out, aop tab own o.op st.nx true (getR st.vars) (getL st.heap) = some out -> out.vc = true -> (out.nw = (st.nx, st.nx + 1) -> st.nx < lim) -> Core P tab own o (st.fs lim) out := by
   intro out h1 h2 h3
   have hx : ∃ nid, aop tab own o.op nid true (st.fs lim).rd (st.fs lim).hp = some out /\ out.vc = true /\ (out.nw = (nid, nid + 1) -> (st.fs lim).nu nid = true) :=
    ⟨st.nx, h1, h2, fun e => by simp [St.fs, h3 e]⟩
   unfold Core
   split
   rename_i c hop
   split
   rename_i f hcc
   simp [zj1, hop, hcc] at hc
   exact hx
   exact hx
  unfold zt2 at h
  unfold zk5
  split at h
  rename_i hg
  simp only [hg]
  split at h
  rename_i out' ha
  cases h
  simp only [za0] at hv
  refine core _ ha hv.1 fun e => ?_
  unfold St.app at hlim
  rw [e] at hlim
  simp only [Nat.blt, zam (za4 _), cond_true] at hlim
  omega
  cases h
  ·rename_i j want hg
   simp only [hg]
   split at h
   cases h
   ·rename_i t ht
    split at h
    cases h
    ·rename_i g hgv
     split at h
     ·rename_i out' ha
      cases h
      simp only [za0, zas, Bool.not_eq_true', List.isEmpty_iff] at hv
      obtain ⟨⟨⟨v1, v2⟩, v3⟩, v4⟩ := hv
      have hz : out'.nw = (0, 0) := by
       have h3 := nb v3
       have h4 := nb v4
       cases hh : out'.nw; simp_all
      refine ⟨t, g, out', ?_, hgv, fun hgt => ?_, by rw [v2, hz]; cases g <;> rfl⟩
      rw [zlk] at ht
      simpa [zmg] using ht
      subst hgt
      exact core _ ha (by simpa using v1) fun e => by
       rw [hz] at e
       simp only [za6] at e
       omega
     cases h
     have hgf : g = false := by simpa using hv
     subst hgf
     refine ⟨t, false, ⟨.undef, true, [], (0, 0), []⟩, ?_, hgv, (fun h => by cases h), rfl⟩
     rw [zlk] at ht
     simpa [zmg] using ht
 intro id h1 h2
 rcases hnw with e | e <;> rw [e] at h1 h2
 exact absurd h2 (by simp)
 exact h1
def runE (tab : Nat -> TI) (own dr : Bool) (ops : List Oper) : List Oper -> St -> Bool -> List FP -> Option (St × Bool × List FP × List Oper)
 | [], st, vc, fps => some (st, vc, fps, [])
 | o :: l, st, vc, fps =>
  bif zj1 o then some (st, vc, fps, o :: l) else
  match zt2 tab own ops o st with
  | some (out, v) => runE tab own dr ops l (st.app o.dst out) (vc && v) (bif dr then fps ++ [fpOf o ⟨getR st.vars, getL st.heap, fun _ => true⟩ out] else fps)
  | none => none
theorem zum (o : Oper) (st : St) (lim : Nat) (out : Out) : fpOf o ⟨getR st.vars, getL st.heap, fun _ => true⟩ out = fpOf o (st.fs lim) out := rfl
theorem WRun.E {P tab own lim} {ops : Array Oper} {dr : Bool} {l l' : List Oper} {st st' : St} {acc acc' : List FP} {Q : St -> List FP -> Prop} {vc : Bool}
  (h : runE tab own dr ops.toList l st true acc = some (st', vc, acc', l')) (hdr : dr = true \/ ∀ st a b, Q st a -> Q st b) (hv : vc = true) (hlim : st'.nx <= lim) (hQ : WRun P tab own lim ops l' st' acc' Q) : st.nx <= st'.nx /\ WRun P tab own lim ops l st acc Q := by
 have key : ∀ (l : List Oper) (st : St) (v0 : Bool) (acc : List FP), runE tab own dr ops.toList l st v0 acc = some (st', vc, acc', l') -> v0 = true /\ st.nx <= st'.nx /\ WRun P tab own lim ops l st acc Q := by
  intro l
  induction l with
  | nil =>
   intro st v0 acc h
   simp only [runE, za3, za6] at h
   obtain ⟨rfl, rfl, rfl, rfl⟩ := h
   exact ⟨hv, za4 _, hQ⟩
  | cons o l ih =>
   intro st v0 acc h
   simp only [runE] at h
   cases hc : zj1 o with
   | true =>
    rw [hc] at h
    simp only [cond_true, za3, za6] at h
    obtain ⟨rfl, rfl, rfl, rfl⟩ := h
    exact ⟨hv, za4 _, hQ⟩
   | false =>
    rw [hc] at h
    simp only [cond_false] at h
    split at h
    rename_i out v hs
    obtain ⟨hvv, hnx, os, st2, hch, hq⟩ := ih _ _ _ h
    simp only [za0] at hvv
    obtain ⟨f1, f2⟩ := zqz (P := P) (lim := lim) hc hs hvv.2 (zar hnx hlim)
    refine ⟨hvv.1, zar (ya2i (ztx hs hvv.2)) hnx, (out, fpOf o (st.fs lim) out) :: os, st2, .cons f1 f2 hch, ?_⟩
    rcases hdr with hd | hd
    subst hd
    simp only [cond_true, zum o st lim] at hq
    simpa using hq
    exact hd _ _ _ hq
    cases h
 exact (key l st true acc h).2
section
variable {P : Program} {tab : Nat -> TI} {own : Bool} {lim : Nat} {E : En} {n : Nat}
theorem znp (hT : zgy P tab) {ops : Array Oper} (hok : zwx n ops = true) {Q : Exit -> Act -> World -> Prop} : ∀ (l : List Oper) (k : Nat) (st st' : St) (os : List (Out × FP)) (F : FrS) (a : Act) (w : World) (g : Gh),
  (∀ i, l[i]? = ops[k + i]?) -> Chain P tab own lim ops l st os st' -> F.on lim st -> Rel E n F a w g -> (∀ F' a' w' g', F'.on lim st' -> Rel E n F' a' w' g' -> Q .normal a' w') -> wpOps P ops Q (List.range' k l.length) a w
 | [], k, st, st', os, F, a, w, g, _, h, hF, hR, hQ => by
  cases h
  exact hQ _ _ _ _ hF hR
 | o :: l, k, st, st', os, F, a, w, g, hl, h, hF, hR, hQ => by
  cases h with
  | cons hf hn h =>
   have hi : ops[k]? = some o := by have := hl 0; simpa using this.symm
   obtain ⟨h1, h2, h3⟩ := zu7 hok hi
   simp only [za5, List.range'_succ]
   rw [wpOps_cons]
   refine znm hT hi h1 h2 h3 hR (zuo hF hf) fun v w' g' hrel => ?_
   exact znp hT hok l (k + 1) _ _ _ _ _ _ _ (fun i => by have := hl (i + 1); simpa [Nat.add_assoc, Nat.add_comm 1 i] using this) h (ya1e hF o _ hn) hrel hQ
theorem zt9 {ops : Array Oper} {outs outs' : Nat -> Out} {fps fps' : Nat -> FP} : ∀ (l : List Nat) (F F' : FrS), (∀ i ∈ l, outs' i = outs i /\ fps' i = fps i) -> RunS P tab own ops outs fps l F F' -> RunS P tab own ops outs' fps' l F F'
 | [], F, F', _, h => by cases h; exact .nil _
 | i :: l, F, F', he, h => by
  cases h with
  | cons hs h =>
   obtain ⟨e1, e2⟩ := he i (by simp)
   refine .cons ?_ ?_
   obtain ⟨o, ho, hf, hp⟩ := hs
   exact ⟨o, ho, by rw [e1]; exact hf, by rw [e1, e2]; exact hp⟩
   have : FrS.at ops outs' i F = FrS.at ops outs i F := by simp only [FrS.at, e1]
   rw [this]
   exact zt9 l _ _ (fun j hj => he j (by simp [hj])) h
def zkc : FP := ⟨[], [], 0, 0⟩
theorem zpj {ops : Array Oper} : ∀ (l : List Oper) (k : Nat) (st st' : St) (os : List (Out × FP)) (F : FrS), (∀ i, l[i]? = ops[k + i]?) -> Chain P tab own lim ops l st os st' -> F.on lim st ->
  os.length = l.length /\ ∃ F', F'.on lim st' /\ RunS P tab own ops (fun i => ((os.map (·.1))[i - k]?).getD { d := .undef, vc := true }) (fun i => ((os.map (·.2))[i - k]?).getD zkc) (List.range' k l.length) F F'
 | [], k, st, st', os, F, _, h, hF => by cases h; exact ⟨rfl, F, hF, .nil _⟩
 | o :: l, k, st, st', os, F, hl, h, hF => by
  cases h with
  | @cons _ _ _ _ out os' hf hn h =>
   have hi : ops[k]? = some o := by have := hl 0; simpa using this.symm
   obtain ⟨hlen, F', hF', hrun⟩ := zpj l (k + 1) _ _ _ (F.app o out) (fun i => by have := hl (i + 1); simpa [Nat.add_assoc, Nat.add_comm 1 i] using this) h (ya1e hF o _ hn)
   refine ⟨by simp [hlen], F', hF', ?_⟩
   simp only [za5, List.range'_succ]
   refine .cons ⟨o, hi, by simpa using zuo hF hf, ?_⟩ ?_
   simp only [Nat.sub_self, zah, List.getElem?_cons_zero, Option.getD_some]
   simp only [fpOf, hF.1, St.fs]
   have hat : FrS.at ops (fun i => ((((out, fpOf o (st.fs lim) out) :: os').map (·.1))[i - k]?).getD { d := .undef, vc := true }) k F = F.app o out := by
    simp [FrS.at, hi]
   rw [hat]
   refine zt9 _ _ _ (fun i hi => ?_) hrun
   have : k + 1 <= i := by
    have := List.mem_range'.1 hi
    omega
   have e : i - k = (i - (k + 1)) + 1 := by omega
   rw [e]
   simp
def RegA (P : Program) (tab : Nat -> TI) (own : Bool) (lim : Nat) (ops : Array Oper) (draw : Bool) (st : St) (Q : St -> Prop) : Prop :=
 WRun P tab own lim ops ops.toList st [] fun st' fps => (draw = true -> zk6 ops (fun i => (fps[i]?).getD zkc) = true) /\ Q st'
theorem zvc (hT : zgy P tab) (hm : P.follows .mixedOrders = true) {id : Nat} {ops : Array Oper} {draw : Bool} (hok : zwx n ops = true) (hsl : draw = true -> zty ops = true) {st : St} {Q : St -> Prop}
  (h : RegA P tab own lim ops draw st Q) {F : FrS} {a : Act} {w : World} {g : Gh} (hF : F.on lim st) (hR : Rel E n F a w g) {Q' : Exit -> Act -> World -> Prop}
  (hQ : ∀ st' F' a' w' g', Q st' -> F'.on lim st' -> Rel E n F' a' w' g' -> Q' .normal a' w') : (Code.region id ops draw).wp P Q' a w := by
 obtain ⟨os, st', hch, hs, hq⟩ := h
 cases draw with
 | false =>
  refine wp_region ?_
  have := znp hT hok (Q := Q') ops.toList 0 st st' os F a w g (fun i => by simp) hch hF hR (fun F' a' w' g' hf hr => hQ _ _ _ _ _ hq hf hr)
  rw [List.range_eq_range']
  simpa using this
 | true =>
  obtain ⟨hlen, F', hF', hrun⟩ := zpj ops.toList 0 st st' os F (fun i => by simp) hch hF
  have hs' := hs rfl
  simp only [zai] at hs'
  refine zws (own := own) hT hm hok (hsl rfl) (outs := fun i => ((os.map (·.1))[i - 0]?).getD { d := .undef, vc := true }) (fps := fun i => ((os.map (·.2))[i - 0]?).getD zkc) (by simpa using hs') (F' := F') ?_ hR fun a' w' g' hr => hQ _ _ _ _ _ hq hF' hr
  rw [List.range_eq_range']
  exact hrun
end
def Sub (a b : St) : Prop := (∀ t d, getL a.vars t = some d -> getL b.vars t = some d) /\ (∀ i x, getL a.heap i = some x -> getL b.heap i = some x) /\ b.nx <= a.nx
def Ok (P : Program) (lim n : Nat) (c : Code) (st : St) (Q : Exit -> St -> Prop) : Prop :=
 ∀ (E : En) (F : FrS) (a : Act) (w : World) (g : Gh), F.on lim st -> Rel E n F a w g -> c.wp P (fun e a' w' => ∃ st' F' g', Q e st' /\ F'.on lim st' /\ Rel E n F' a' w' g') a w
theorem Rel.sub {E n a w g} {F : FrS} {lim : Nat} {st st' : St} (hF : F.on lim st) (h : Rel E n F a w g) (hs : Sub st' st) : ∃ F', F'.on lim st' /\ Rel E n F' a w g := by
 obtain ⟨h1, h2, h3⟩ := hF
 have hne : ∀ id, getL st'.heap id ≠ none -> F.hp id ≠ none := by
  intro id hid h0
  obtain ⟨b, hb⟩ := Option.ne_none_iff_exists'.1 hid
  have := hs.2.1 id b hb
  rw [h2, this] at h0; cases h0
 have hown : ∀ b, ownB g (getL st'.heap) b -> w.heap.size <= b \/ ownB g F.hp b := by
  rintro b ⟨x, o, hx, hss⟩
  exact .inr ⟨x, o, hne x hx, hss⟩
 have hsome : ∀ id blk, getL st'.heap id = some blk -> F.hp id = some blk := fun id blk hb => by rw [h2]; exact hs.2.1 id blk hb
 have hrel := Rel.change h (g' := g) (w' := w) (hp' := getL st'.heap) (nu' := F.nu) (ch := fun _ => False) ((Keep.refl _ w).mono fun _ _ h => h) rfl rfl (fun _ _ => rfl) hown (fun id blk hb => .inl ⟨fun h => h, hsome id blk hb⟩)
  (fun id id' b o o' k1 k2 => h.mem.inj id id' b o o' (hne _ k1) (hne _ k2)) (fun id hid => by
   obtain ⟨k1, k2⟩ := h.mem.nw id hid
   refine ⟨k1, ?_⟩
   cases hg : getL st'.heap id with
   | none => rfl
   | some b => rw [hsome id b hg] at k2; cases k2) (fun _ _ => rfl) (fun _ h => h)
 refine ⟨⟨getR st'.vars, getL st'.heap, F.nu⟩, ⟨rfl, rfl, fun id k1 k2 => h3 id (zar hs.2.2 k1) k2⟩, ⟨hrel.sz, hrel.df, fun t => ?_, hrel.mem, hrel.base, hrel.keep, hrel.gz, hrel.gs, hrel.nu⟩⟩
 have hr := hrel.rd t
 simp only at hr ⊢
 rw [h1] at hr
 cases hg : getL st'.vars t with
 | none => simp only [getR, hg, rep]
 | some d =>
  have := hs.1 t d hg
  simp only [getR, hg, this] at hr ⊢
  exact hr
theorem Ok.mono {P lim n c st} {Q Q' : Exit -> St -> Prop} (h : Ok P lim n c st Q) (hq : ∀ e s, Q e s -> Q' e s) : Ok P lim n c st Q' :=
 fun E F a w g hF hR => wp_mono (h E F a w g hF hR) fun _ _ _ ⟨st', F', g', h1, h2, h3⟩ => ⟨st', F', g', hq _ _ h1, h2, h3⟩
theorem Ok.skip {P lim n st} {Q : Exit -> St -> Prop} (h : Q .normal st) : Ok P lim n .skip st Q := fun _ F _ _ g hF hR => wp_skip ⟨st, F, g, h, hF, hR⟩
theorem Ok.exit {P lim n id st} {Q : Exit -> St -> Prop} (h : Q (.exit id) st) : Ok P lim n (.exit id) st Q := fun _ F _ _ g hF hR => wp_exit ⟨st, F, g, h, hF, hR⟩
theorem Ok.ret {P lim n st} {Q : Exit -> St -> Prop} (h : Q .ret st) : Ok P lim n .ret st Q := fun _ F _ _ g hF hR => wp_ret ⟨st, F, g, h, hF, hR⟩
def seqQ (P : Program) (lim n : Nat) (y : Code) (Q : Exit -> St -> Prop) : Exit -> St -> Prop := fun e st' => match e with | .normal => Ok P lim n y st' Q | e => Q e st'
def ya2f (id : Nat) (Q : Exit -> St -> Prop) : Exit -> St -> Prop := fun e st' => match e with | .exit i => bif Nat.beq i id then Q .normal st' else Q (.exit i) st' | e => Q e st'
theorem Ok.seq {P lim n x y st} {Q : Exit -> St -> Prop} (h : Ok P lim n x st (seqQ P lim n y Q)) : Ok P lim n (.seq x y) st Q := by
 intro E F a w g hF hR
 refine wp_seq (wp_mono (h E F a w g hF hR) ?_)
 rintro e a' w' ⟨st', F', g', h1, h2, h3⟩
 cases e with
 | normal => exact h1 E F' a' w' g' h2 h3
 | _ => exact ⟨st', F', g', h1, h2, h3⟩
theorem Ok.block {P lim n id c st} {Q : Exit -> St -> Prop} (h : Ok P lim n c st (ya2f id Q)) : Ok P lim n (.block id c) st Q := by
 intro E F a w g hF hR
 refine wp_block (wp_mono (h E F a w g hF hR) ?_)
 rintro e a' w' ⟨st', F', g', h1, h2, h3⟩
 cases e with
 | exit i =>
  simp only [Exit.inBlock]
  simp only [ya2f] at h1
  by_cases hi : i = id
  subst hi; simp only [Nat.beq_refl, cond_true, if_true] at h1 ⊢; exact ⟨st', F', g', h1, h2, h3⟩
  rw [zdi hi] at h1
  simp only [hi, if_false, cond_false] at h1 ⊢; exact ⟨st', F', g', h1, h2, h3⟩
 | _ => exact ⟨st', F', g', h1, h2, h3⟩
theorem Ok.cond {P lim n c x y st b} {Q : Exit -> St -> Prop} (hk : zcz c = true) (hc : ev (getR st.vars) c = .bool b) (h1 : b = true -> Ok P lim n x st Q) (h2 : b = false -> Ok P lim n y st Q) : Ok P lim n (.cond c x y) st Q := by
 intro E F a w g hF hR
 have := zy4 hR.rd c hk
 rw [hF.1, hc] at this
 simp only [rep] at this
 cases b
 exact wp_cond_false this (h2 rfl E F a w g hF hR)
 exact wp_cond_true this (h1 rfl E F a w g hF hR)
def zj0 (n : Nat) (ops : Array Oper) (draw : Bool) : Bool := zwx n ops && (!draw || zty ops)
theorem zs1 {α : Type} (V : List Nat) (l : List (Nat × α)) (t : Nat) (d : α) (h : getL (keep V l) t = some d) : getL l t = some d := by
 induction l with
 | nil => exact h
 | cons x l ih =>
  obtain ⟨a, z⟩ := x
  simp only [keep] at h
  simp only [getL]
  cases hv : V.any (Nat.beq a)
  rw [hv] at h
  simp only [cond_false] at h
  have := ih h
  cases hb : Nat.beq a t
  exact this
  exfalso
  have e := nb hb
  subst e
  have : ∀ (l : List (Nat × α)), getL (keep V l) a = none := by
   intro l
   induction l with
   | nil => rfl
   | cons y l ih2 =>
    obtain ⟨b, w⟩ := y
    simp only [keep]
    cases hvb : V.any (Nat.beq b)
    exact ih2
    simp only [cond_true, getL]
    cases hba : Nat.beq b a
    exact ih2
    exfalso
    have e := nb hba
    subst e
    rw [hv] at hvb; cases hvb
  rw [this l] at h; cases h
  rw [hv] at h
  simp only [cond_true, getL] at h
  cases hb : Nat.beq a t
  rw [hb] at h; simp only [cond_false] at h ⊢; exact ih h
  rw [hb] at h; exact h
theorem Ok.region {P tab own lim n id ops draw st} {Q : Exit -> St -> Prop} (hT : zgy P tab) (hm : P.follows .mixedOrders = true) (V : List Nat) (hok : zj0 n ops draw = true) (h : RegA P tab own lim ops draw ⟨keep V st.vars, st.heap, st.nx⟩ (Q .normal)) : Ok P lim n (.region id ops draw) st Q := by
 simp only [zj0, za0, zas, Bool.not_eq_true'] at hok
 intro E F a w g hF hR
 obtain ⟨F', hF', hR'⟩ := hR.sub hF (st' := ⟨keep V st.vars, st.heap, st.nx⟩) ⟨fun t d h => zs1 V _ t d h, fun _ _ h => h, za4 _⟩
 refine zvc hT hm hok.1 (fun hd => ?_) h hF' hR' fun st' F' a' w' g' h1 h2 h3 => ⟨st', F', g', h1, h2, h3⟩
 rcases hok.2 with h | h
 rw [hd] at h; cases h
 exact h
theorem ya2w {P : Program} {l : List (Nat × TI)} (h : (l.all fun x => zd0 P x.1 x.2 && (!x.2.eqs || ztk P x.1 x.2)) = true) : zgy P fun t => match getL l t with | some x => x | none => default := by
 have key : ∀ t x, getL l t = some x -> zd0 P t x = true /\ (x.eqs = true -> ztk P t x = true) := by
  intro t x hg
  have hm : (t, x) ∈ l := by
   clear h
   induction l with
   | nil => cases hg
   | cons y l ih =>
    obtain ⟨a, z⟩ := y
    simp only [getL] at hg
    cases hb : Nat.beq a t
    rw [hb] at hg; exact zaj _ (ih hg)
    rw [hb] at hg; cases hg; rw [nb hb]; simp
  have := List.all_eq_true.1 h (t, x) hm
  simp only [za0, zas, Bool.not_eq_true'] at this
  refine ⟨this.1, fun he => this.2.resolve_left ?_⟩
  rw [he]; simp
 refine ⟨fun t hk => ?_, fun t hk => ?_⟩
 all_goals
  simp only at hk ⊢
  cases hg : getL l t with
  | none => rw [hg] at hk; exact absurd hk (by simp [default, instInhabitedTI.default])
  | some x => rw [hg] at hk; first | exact (key t x hg).1 | exact (key t x hg).2 hk
def zfn : Nat -> List D -> List (Nat × D)
 | _, [] => []
 | k, d :: ds => (k, d) :: zfn (k + 1) ds
def resD (tab : Nat -> TI) (st : St) : ResultVar -> Option (D × Bool)
 | .tmp t => some (getR st.vars t, true)
 | .cell a t => match zro (getL st.heap) ((tab t).kind == 2) (tab t).size (getR st.vars a) with
  | some (d, p) => some (d, p && (!((tab t).kind == 0) && !((tab t).kind == 4)))
  | none => none
def resL (tab : Nat -> TI) (st : St) : List ResultVar -> Option (List D × Bool)
 | [] => some ([], true)
 | r :: rs => match resD tab st r, resL tab st rs with
  | some (d, p), some (ds, q) => some (d :: ds, p && q)
  | _, _ => none
def resT : List D -> D
 | [d] => d
 | l => .tuple l
section
variable {P : Program} {tab : Nat -> TI} {E : En} {n : Nat} {F : FrS} {a : Act} {w : World} {g : Gh}
def resV (tmps : Array Value) : ResultVar -> Sem Value
 | .tmp t => pure (tmps.getD t undef)
 | .cell a t => do loadVar t (<- asAddr (tmps.getD a undef))
theorem ya4w (hT : zgy P tab) {st : St} (hR : Rel E n F a w g) (h1 : F.rd = getR st.vars) (h2 : F.hp = getL st.heap) {r : ResultVar} {d : D} {p : Bool} (h : resD tab st r = some (d, p)) (hp : p = true) :
  ∃ v, (resV a.tmps r).run P w = .ok v w /\ rep (cx w g F.hp) d v := by
 cases r with
 | tmp t =>
  simp only [resD, za3, za6] at h
  obtain ⟨rfl, _⟩ := h
  rw [<- h1]
  exact ⟨_, rfl, hR.rd t⟩
 | cell x t =>
  simp only [resD] at h
  split at h
  rename_i d' p' hl
  cases h
  simp only [za0] at hp
  rw [<- h1, <- h2] at hl
  have hq := ya48 (P := P) (o := { dst := none, op := .load t (.tmp x), type := 0, pos := "", after := #[], guard := none }) hR (t := t) (ti := tab t) (x := .tmp x) rfl (hT.1 t (kd hp.2.1)) (by simpa using hp.2.2) (hR.rd x) hl hp.1
  obtain ⟨v, h1, h2⟩ := hq
  refine ⟨v, ?_, h2⟩
  unfold resV
  have hev : a.eval (.tmp x) = a.tmps.getD x undef := rfl
  simp only [execOp, Instr.loadAt, hev] at h1
  cases hv : a.tmps.getD x undef with
  | pointer ad =>
   cases ad with
   | none => rw [hv] at h1; simp [Instr.sureAddr] at h1
   | some ad =>
    rw [hv] at h1
    simp only [Instr.sureAddr, pure_bind, Sem.run_bind] at h1
    have has : asAddr (a.tmps.getD x undef) = pure ad := by rw [hv]; rfl
    show (do loadVar t (<- asAddr (a.tmps.getD x undef)) : Sem Value).run P w = .ok v w
    rw [has, pure_bind]
    cases hh : (loadVar t ad).run P w with
    | ok v' w' => rw [hh] at h1; simpa using h1
    | halt x' w' => rw [hh] at h1; simp at h1
  | _ => rw [hv] at h1; simp [Instr.sureAddr] at h1
  cases h
theorem ya0z (hT : zgy P tab) {st : St} (hR : Rel E n F a w g) (h1 : F.rd = getR st.vars) (h2 : F.hp = getL st.heap) : ∀ (rs : List ResultVar) (ds : List D) (p : Bool), resL tab st rs = some (ds, p) -> p = true ->
  ∃ vs : List Value, (rs.mapM (resV a.tmps)).run P w = .ok vs w /\ reps (cx w g F.hp) ds vs
 | [], ds, p, h, _ => by
  simp only [resL, za3, za6] at h
  obtain ⟨rfl, _⟩ := h
  exact ⟨[], by simp, by simp only [reps]⟩
 | r :: rs, ds, p, h, hp => by
  simp only [resL] at h
  split at h
  rename_i d p' ds' q e1 e2
  cases h
  simp only [za0] at hp
  obtain ⟨v, g1, g2⟩ := ya4w hT hR h1 h2 e1 hp.1
  obtain ⟨vs, g3, g4⟩ := ya0z hT hR h1 h2 rs ds' q e2 hp.2
  refine ⟨v :: vs, ?_, ?_⟩
  simp only [List.mapM_cons, Sem.run_bind, g1, g3, Result.andThen_ok, Sem.run_pure]
  simp only [reps]
  exact ⟨v, vs, rfl, g2, g4⟩
  cases h
theorem ztb (hT : zgy P tab) {fn : Func} {st : St} (hR : Rel E n F a w g) (h1 : F.rd = getR st.vars) (h2 : F.hp = getL st.heap) {ds : List D} (h : resL tab st fn.results.toList = some (ds, true)) :
  ∃ v, (results fn a.tmps).run P w = .ok v w /\ rep (cx w g F.hp) (resT ds) v := by
 obtain ⟨rvs, g1, g2⟩ := ya0z hT hR h1 h2 _ _ _ h rfl
 have hm : (fn.results.mapM (resV a.tmps)).run P w = .ok rvs.toArray w := by
  rw [Array.mapM_eq_mapM_toList]
  simp [g1]
 have hunf : results fn a.tmps = (do let vs <- fn.results.mapM (resV a.tmps); pure (if h : vs.size = 1 then vs[0] else .tuple vs)) := rfl
 rw [hunf]
 simp only [Sem.run_bind, hm, Result.andThen_ok, Sem.run_pure]
 refine ⟨_, rfl, ?_⟩
 match ds, g2 with
 | [d], g2 =>
  simp only [reps] at g2
  obtain ⟨v, vs', rfl, hd, rfl⟩ := g2
  simpa [resT] using hd
 | [], g2 =>
  simp only [reps] at g2
  subst g2
  simp only [resT, rep]
  exact ⟨[], by simp, by simp only [reps]⟩
 | d1 :: d2 :: ds, g2 =>
  have hl := zdc _ _ g2
  have : rvs.toArray.size ≠ 1 := by simp only [List.size_toArray, hl, za5]; omega
  rw [dif_neg this]
  simp only [resT, rep]
  exact ⟨rvs, rfl, g2⟩
theorem zry : ∀ (ds : List D) (vs : List Value) (k t : Nat) {C : Cx}, reps C ds vs -> ∀ (tail : Array Value), (∀ j v, vs[j]? = some v -> tail[k + j]? = some v) -> rep C (getR (zfn k ds) t) (tail.getD t undef)
 | [], vs, k, t, C, _, tail, _ => by simp only [zfn, getR, getL, rep]
 | d :: ds, vs, k, t, C, h, tail, ht => by
  simp only [reps] at h
  obtain ⟨v, vs', rfl, hd, h⟩ := h
  simp only [zfn, getR, getL]
  cases hb : Nat.beq k t
  simp only [cond_false]
  have := zry ds vs' (k + 1) t h tail (fun j u hj => by have := ht (j + 1) u (by simpa using hj); rwa [show k + (j + 1) = k + 1 + j by omega] at this)
  simpa only [getR] using this
  have e := nb hb
  subst e
  have := ht 0 v rfl
  simp only [Nat.add_zero] at this
  simp only [cond_true, Array.getD_eq_getD_getElem?, this, Option.getD_some]
  exact hd
def ya5z (tab : Nat -> TI) (fn : Func) (H : List (Nat × Blk)) (r : D) (eff : List (Nat × Option Blk)) (st : St) : Prop :=
 ∃ ds, resL tab st fn.results.toList = some (ds, true) /\ resT ds = r /\ ∃ h2 : List (Nat × Blk), (∀ i x, getL h2 i = some x -> getL st.heap i = some x) /\ getL h2 = effH (getL H) eff
theorem zq4 (hT : zgy P tab) {K : FuncId} {fn : Func} {c : Code} {args : List D} {H : List (Nat × Blk)} {r : D} {eff : List (Nat × Option Blk)} {nw : Nat × Nat} (hf : P.funcs[K]? = some fn) (hb : fn.body = some c) (hname : fn.name ≠ "runtime.NumGoroutine") (hlen : args.length <= fn.ntmps)
  (hE : ∀ x ∈ eff, x.1 ∈ H.map (·.1) \/ nw.1 <= x.1 /\ x.1 < nw.2)
  (h0 : ∀ (E : En) (F : FrS) (g : Gh) (w : World) (va : Array Value) (R : Ending -> World -> Prop), F.on nw.2 ⟨zfn 0 args, H, nw.1⟩ -> Rel E fn.ntmps F { tmps := va ++ Array.replicate (fn.ntmps - va.size) undef, defers := [] } w g -> E.w0 = w ->
   (∀ st' F' a' w' g', ya5z tab fn H r eff st' -> F'.on nw.2 st' -> Rel E fn.ntmps F' a' w' g' -> ∃ v, (results fn a'.tmps).run P w' = .ok v w' /\ R (.returned v) w') -> Calls P K va w R) : zby P K args H r eff nw := by
 refine ⟨⟨fn, hf, hname, by rw [hb]; rfl⟩, fun fr w g hp nu vs hM hH hnw hvs => ?_⟩
 have hsz : vs.length = args.length := zdc _ _ hvs
 -- what is not the callee's
 let fo : Nat -> Prop := fun b => ∃ id o, hp id ≠ none /\ getL H id = none /\ g.σ id = some (b, o)
 let gc : Gh := ⟨g.σ, fun b => g.Z b /\ ¬ fo b, fun m => (g.zn m).map fun Z b => Z b /\ ¬ fo b⟩
 let nuc : Nat -> Bool := fun id => decide (nw.1 <= id) && decide (id < nw.2)
 have hsub : ∀ id, getL H id ≠ none -> hp id ≠ none := by
  intro id h
  obtain ⟨b, hb⟩ := Option.ne_none_iff_exists'.1 h
  rw [hH id b hb]; simp
 have hfo : ∀ b, fo b -> ownB g hp b := fun b ⟨id, o, h1, _, h3⟩ => ⟨id, o, h1, h3⟩
 have hMc : ∀ b, ownB gc (getL H) b -> ownB g hp b := fun b ⟨id, o, h1, h2⟩ => ⟨id, o, hsub id h1, h2⟩
 have hzc : ∀ m Z', (cx w gc (getL H)).zone m = some Z' -> ∃ Z, (cx w g hp).zone m = some Z /\ ∀ b, Z' b ↔ Z b /\ ¬ fo b := by
  intro m Z' h
  unfold Cx.zone at h ⊢
  split at h
  cases h; simp only [*, if_true]; exact ⟨_, rfl, fun b => Iff.rfl⟩
  rename_i hm
  simp only [hm, if_false]
  simp only [cx, gc, Option.map_eq_some_iff] at h ⊢
  obtain ⟨Z, h1, rfl⟩ := h
  exact ⟨Z, h1, fun b => Iff.rfl⟩
 have hle : Cx.Le (cx w g hp) (cx w gc (getL H)) := by
  refine ⟨fun m _ Z' hZ' => ?_, fun _ _ => rfl, id, id, fun _ _ _ => rfl⟩
  obtain ⟨Z, h1, h2⟩ := hzc m Z' hZ'
  exact ⟨Z, h1, fun b k1 k2 k3 => ⟨fun h => k1 (hMc b h), (h2 b).2 ⟨k2, fun h => k1 (hfo b h)⟩, .refl k3⟩⟩
 have hnuc : ∀ id, nuc id = true -> nu id = true := by
  intro id h
  simp only [nuc, za0, decide_eq_true_eq] at h
  exact hnw id h.1 h.2
 have hmemc : Mem fr w gc (getL H) nuc := by
  refine ⟨fun id blk hb => zlh (C := cx w g hp) hle rfl rfl (fun _ _ _ => rfl) (hM.hd id blk (hH id blk hb)), fun id id' b o o' h1 h2 => hM.inj id id' b o o' (hsub id h1) (hsub id' h2), ?_, ?_, hM.fl⟩
  intro id hid
  obtain ⟨h1, h2⟩ := hM.nw id (hnuc id hid)
  refine ⟨h1, ?_⟩
  cases hg : getL H id with
  | none => rfl
  | some b => rw [hH id b hg] at h2; cases h2
  ·obtain ⟨Z1, k1, k2, k3⟩ := hM.zs.z1
   obtain ⟨Z2, k4, k5⟩ := hM.zs.z2
   have hnf : ∀ b, w.heap.size <= b -> ¬ fo b := fun b hb h => by have := hM.own_lt (hfo b h); omega
   refine ⟨fun b hb => ⟨hM.zs.z0 b hb, hnf b hb⟩, ⟨fun b => Z1 b /\ ¬ fo b, by simp only [gc, k1, Option.map_some], fun b hb => ⟨(k2 b hb.1).1, (k2 b hb.1).2, hb.2⟩, fun b hb => ⟨k3 b hb, hnf b hb⟩⟩, ⟨fun b => Z2 b /\ ¬ fo b, by simp only [gc, k4, Option.map_some], fun b hb => ⟨(k5 b hb.1).1, (k5 b hb.1).2, hb.2⟩⟩, ?_, fun b hb => ?_⟩
   rotate_left
   obtain ⟨c1, c2, Z, c3, c4⟩ := hM.zs.zo b (hMc b hb)
   have hnb : ¬ fo b := by
    rintro ⟨id2, o2, f1, f2, f3⟩
    obtain ⟨id, o, f4, f5⟩ := hb
    have := hM.inj id id2 b o o2 (hsub id f4) f1 f5 f3
    subst this
    exact f4 f2
   exact ⟨c1, ⟨c2, hnb⟩, fun b => Z b /\ ¬ fo b, by simp only [gc, c3, Option.map_some], c4, hnb⟩
   intro m Zm hm hZ b hb
   simp only [gc, Option.map_eq_some_iff] at hZ
   obtain ⟨Z, hZ, rfl⟩ := hZ
   obtain ⟨e1, e2, e3, e4, e5⟩ := hM.zs.zr m Z hm hZ b hb.1
   refine ⟨e1, e2, ⟨e3, hb.2⟩, fun h => e4 (hMc b h), ?_⟩
   intro m' Zm' hne hm' hZ' hb'
   simp only [gc, Option.map_eq_some_iff] at hZ'
   obtain ⟨Z', hZ', rfl⟩ := hZ'
   exact e5 m' Z' hne hm' hZ' hb'.1
 have hrel : Rel ⟨w, fr, zsv g hp (fun id => getL H id ≠ none), gc, nuc⟩ fn.ntmps ⟨getR (zfn 0 args), getL H, nuc⟩ { tmps := vs.toArray ++ Array.replicate (fn.ntmps - vs.toArray.size) undef, defers := [] } w gc := by
  refine ⟨by simp; omega, rfl, fun t => ?_, hmemc, fun id b o h1 h2 => .inr ⟨id, o, h1, hsub id h1, h2⟩, Keep.refl _ _, ⟨rfl, rfl⟩, fun _ _ => rfl, fun _ h => h⟩
  exact zry args vs 0 t (zgv hle _ _ hvs) (vs.toArray ++ Array.replicate (fn.ntmps - vs.toArray.size) undef) (fun j v hj => by
   rw [Nat.zero_add, Array.getElem?_append_left (by simpa using (List.getElem?_eq_some_iff.1 hj).1)]
   simpa using hj)
 refine h0 _ _ _ w vs.toArray _ ⟨rfl, rfl, fun id h1 h2 => by simp [nuc, h1, h2]⟩ hrel rfl ?_
 rintro st' F0 a' w' g' ⟨ds, hres, rfl, h2, hsub2, hheap⟩ hF0 hrel0
 obtain ⟨v, hv1, hv0⟩ := ztb hT hrel0 hF0.1 hF0.2.1 hres
 obtain ⟨F', hF', hrel'⟩ := hrel0.sub hF0 (st' := ⟨[], h2, st'.nx⟩) ⟨(fun t d h => by cases h), hsub2, za4 _⟩
 have hv2 : rep (cx w' g' F'.hp) (resT ds) v := by
  refine zew (C := cx w' g' F0.hp) (C' := cx w' g' F'.hp) ⟨fun m _ Z' hZ' => ⟨Z', hZ', fun b k1 k2 k3 => ⟨?_, k2, .refl k3⟩⟩, fun _ _ => rfl, id, id, fun _ _ _ => rfl⟩ _ _ hv0
  rintro ⟨id, o, k3, k4⟩
  refine k1 ⟨id, o, ?_, k4⟩
  obtain ⟨bb, hbb⟩ := Option.ne_none_iff_exists'.1 k3
  rw [hF'.2.1] at hbb
  rw [hF0.2.1, hsub2 id bb hbb]
  simp
 have hFh : F'.hp = effH (getL H) eff := hF'.2.1.trans hheap
 let g'' : Gh := ⟨g'.σ, g.Z, g.zn⟩
 have hgs : ∀ id, nu id = false -> g'.σ id = g.σ id := by
  intro id h
  refine hrel'.gs id ?_
  cases hc : nuc id
  exact hc
  rw [hnuc id hc] at h; cases h
 have hlive : ∀ id, effH hp eff id ≠ none -> F'.hp id ≠ none \/ (hp id ≠ none /\ getL H id = none /\ getL eff id = none) := by
  intro id hid
  unfold effH at hid
  rw [hFh]
  unfold effH
  cases hg : getL eff id with
  | some ob => rw [hg] at hid; exact .inl hid
  | none =>
   rw [hg] at hid
   cases hh : getL H id with
   | none => exact .inr ⟨hid, rfl, rfl⟩
   | some b => left; simp
 have hnotnu : ∀ id, hp id ≠ none -> nu id = false := by
  intro id h
  cases hb : nu id
  rfl
  exact absurd (hM.nw id hb).2 h
 have hown : ∀ b, ownB g'' (effH hp eff) b -> w.heap.size <= b \/ ownB g hp b := by
  rintro b ⟨id, o, h1, h2⟩
  rcases hlive id h1 with h | ⟨h3, h4, _⟩
  rcases hrel'.base id b o h h2 with h | ⟨id2, o2, _, h5, h6⟩
  exact .inl h
  exact .inr ⟨id2, o2, h5, h6⟩
  exact .inr ⟨id, o, h3, by rw [<- hgs id (hnotnu id h3)]; exact h2⟩
 have hle1 : Cx.Le (cx w g hp) (cx w' g'' (effH hp eff)) := Mem.le (g' := g'') hrel'.keep rfl rfl (fun id h => hgs id (by
  cases hb : nu id
  rfl
  exact absurd (hM.nw id hb).1 h)) hown
 have hle2 : Cx.Le (cx w' g' F'.hp) (cx w' g'' (effH hp eff)) := by
  refine ⟨fun m _ Z' hZ' => ?_, fun _ _ => rfl, id, id, fun _ _ _ => rfl⟩
  have : ∃ Z, (cx w' g' F'.hp).zone m = some Z /\ ∀ b, Z b -> Z' b /\ ¬ fo b := by
   unfold Cx.zone at hZ' ⊢
   split at hZ'
   cases hZ'
   simp only [*, if_true]
   refine ⟨_, rfl, fun b hb => ?_⟩
   have : gc.Z b := by rw [<- hrel'.gz.1]; exact hb
   exact this
   rename_i hm
   simp only [hm, if_false]
   have hzz : g.zn m = some Z' := hZ'
   refine ⟨fun b => Z' b /\ ¬ fo b, ?_, fun b hb => hb⟩
   show g'.zn m = _
   rw [hrel'.gz.2]
   simp only [gc, hzz, Option.map_some]
  obtain ⟨Z, h1, h2⟩ := this
  refine ⟨Z, h1, fun b k1 k2 k3 => ⟨?_, (h2 b k2).1, .refl k3⟩⟩
  rintro ⟨id, o, h3, h4⟩
  rcases hlive id h3 with h | ⟨h5, h6, _⟩
  exact k1 ⟨id, o, h, h4⟩
  refine (h2 b k2).2 ⟨id, o, h5, h6, ?_⟩
  rw [<- hgs id (hnotnu id h5)]; exact h4
 have hmem : Mem fr w' g'' (effH hp eff) (effN nu nw) := by
  refine ⟨fun id blk hb => ?_, fun id id' b o o' h1 h2 h3 h4 => ?_, fun id hid => ?_, ?_, hM.flK hrel'.keep⟩
  rcases hlive id (by rw [hb]; simp) with h | ⟨h1, h2, h3⟩
  have hFb : F'.hp id = some blk := by
   rw [hFh] at h ⊢
   unfold effH at h hb ⊢
   cases hg : getL eff id with
   | some ob => rw [hg] at hb; exact hb
   | none =>
    rw [hg] at hb h
    obtain ⟨b', hb'⟩ := Option.ne_none_iff_exists'.1 h
    have hb2 : getL H id = some b' := hb'
    have := hH id b' hb2
    have hb3 : hp id = some blk := hb
    rw [this] at hb3
    cases hb3
    exact hb2
  exact zlh (C := cx w' g' F'.hp) hle2 rfl rfl (fun _ _ _ => rfl) (hrel'.mem.hd id blk hFb)
  have hpb : hp id = some blk := by
   unfold effH at hb
   rw [h3] at hb
   exact hb
  refine zlh (C := cx w g hp) hle1 rfl (hgs id (hnotnu id h1)) ?_ (hM.hd id blk hpb)
  intro b o hσ
  refine hrel'.keep.block b (zuf (C := cx w g hp) (hM.hd id blk hpb) hσ).1 ?_
  rintro ⟨id2, o2, k1, k2, k3⟩
  have := hM.inj id id2 b o o2 h1 k2 hσ k3
  subst this
  exact k1 h2
  have mixed : ∀ id id' b o o', F'.hp id ≠ none -> g'.σ id = some (b, o) -> hp id' ≠ none -> getL H id' = none -> g.σ id' = some (b, o') -> False := by
   intro id id' b o o' k1 k2 k3 k4 k5
   have hlt := hM.own_lt ⟨id', o', k3, k5⟩
   rcases hrel'.base id b o k1 k2 with h | ⟨id2, o2, e1, e2, e3⟩
   have h' : w.heap.size <= b := h
   omega
   have := hM.inj id' id2 b o' o2 k3 e2 k5 e3
   subst this
   exact e1 k4
  rcases hlive id h1 with k | ⟨k1, k2, _⟩
  rcases hlive id' h2 with k' | ⟨k1', k2', _⟩
  exact hrel'.mem.inj id id' b o o' k k' h3 h4
  exact (mixed id id' b o o' k h3 k1' k2' (by rw [<- hgs id' (hnotnu id' k1')]; exact h4)).elim
  rcases hlive id' h2 with k' | ⟨k1', k2', _⟩
  exact (mixed id' id b o' o k' h4 k1 k2 (by rw [<- hgs id (hnotnu id k1)]; exact h3)).elim
  exact hM.inj id id' b o o' k1 k1' (by rw [<- hgs id (hnotnu id k1)]; exact h3) (by rw [<- hgs id' (hnotnu id' k1')]; exact h4)
  simp only [effN, za0, Bool.not_eq_true', Bool.and_eq_false_iff, decide_eq_false_iff_not] at hid
  obtain ⟨k1, k2⟩ := hM.nw id hid.1
  refine ⟨?_, ?_⟩
  show g'.σ id = none
  rw [hrel'.gs id (by
   simp only [nuc, Bool.and_eq_false_iff, decide_eq_false_iff_not]
   exact hid.2)]
  exact k1
  rw [zsa]
  exact k2
  intro hmem
  obtain ⟨x, hx, rfl⟩ := List.mem_map.1 hmem
  rcases hE x hx with h | h
  have : getL H x.1 ≠ none := by
   intro h0
   have hfind : ∀ (l : List (Nat × Blk)), getL l x.1 = none -> x.1 ∉ l.map (·.1) := by
    intro l
    induction l with
    | nil => intro _ h; cases h
    | cons y l ih =>
     obtain ⟨q, z⟩ := y
     intro h h'
     simp only [getL] at h
     cases hbq : Nat.beq q x.1
     rw [hbq] at h
     simp only [zah, List.mem_cons] at h'
     rcases h' with h' | h'
     rw [h'] at hbq; simp at hbq
     exact ih h h'
     rw [hbq] at h; cases h
   exact hfind H h0 h
  exact hsub _ this k2
  rcases hid.2 with h' | h'
  exact h' h.1
  exact h' h.2
  ·obtain ⟨Z1, k1, k2, k3⟩ := hM.zs.z1
   refine ⟨fun b hb => hM.zs.z0 b (zar hrel'.keep.size hb), ⟨Z1, k1, k2, fun b hb => k3 b (zar hrel'.keep.size hb)⟩, hM.zs.z2, ?_, fun b hb => ?_⟩
   rotate_left
   rcases hown b hb with h | h
   exact ⟨zar hM.fl.le h, hM.zs.z0 b h, Z1, k1, k3 b h⟩
   exact hM.zs.zo b h
   intro m Zm hm hZ b hb
   obtain ⟨e1, e2, e3, e4, e5⟩ := hM.zs.zr m Zm hm hZ b hb
   refine ⟨Nat.lt_of_lt_of_le e1 hrel'.keep.size, e2, e3, ?_, e5⟩
   intro h
   rcases hown b h with h | h
   omega
   exact e4 h
 exact ⟨v, hv1, v, g'', rfl, ⟨rfl, rfl⟩, hgs, hrel'.keep, hmem, hown, zew hle2 _ _ hv2⟩
theorem zss (hT : zgy P tab) {K : FuncId} {fn : Func} {c : Code} {args : List D} {H : List (Nat × Blk)} {r : D} {eff : List (Nat × Option Blk)} {nw : Nat × Nat} (hf : P.funcs[K]? = some fn) (hb : fn.body = some c) (hname : fn.name ≠ "runtime.NumGoroutine") (hlen : args.length <= fn.ntmps)
  (hE : ∀ x ∈ eff, x.1 ∈ H.map (·.1) \/ nw.1 <= x.1 /\ x.1 < nw.2)
  (h : Ok P nw.2 fn.ntmps c ⟨zfn 0 args, H, nw.1⟩ fun e st => (e = .normal \/ e = .ret) /\ ya5z tab fn H r eff st) : zby P K args H r eff nw := by
 refine zq4 hT hf hb hname hlen hE fun E F g w va R hF hR _ hk => calls_of_wp hf hb (wp_mono (h E F _ w g hF hR) ?_)
 rintro e a' w' ⟨st', F', g', ⟨he, hp⟩, hF', hR'⟩
 obtain ⟨v, h1, h2⟩ := hk st' F' a' w' g' hp hF' hR'
 have fin : a'.defers = [] /\ ∃ v, (results fn a'.tmps).run P w' = .ok v w' /\ R (.returned v) w' := ⟨hR'.df, v, h1, h2⟩
 rcases he with rfl | rfl <;> exact fin
end
end Go.Tm
namespace Go.Tm
set_option linter.unusedVariables false
def zwb (tab : Nat -> TI) (own : Bool) (nid : Nat) (g : Bool) (rd : Nat -> D) (hp : Nat -> Option Blk) (x : Operand) : Option Out :=
 match opd g rd x with
  | (d, p) => some { d, vc := p }
def ya2n (tab : Nat -> TI) (own : Bool) (nid : Nat) (g : Bool) (rd : Nat -> D) (hp : Nat -> Option Blk) (c : Operand) (a : Operand) (b : Operand) : Option Out :=
 match opd g rd c with
  | (.bool b0, p) => match opd (g && b0) rd a, opd (g && !b0) rd b with
   | (da, pa), (db, pb) => match zw4 b0 da db with
    | some d => some { d, vc := p && pa && pb }
    | none => none
  | _ => none
def ya0b (tab : Nat -> TI) (own : Bool) (nid : Nat) (g : Bool) (rd : Nat -> D) (hp : Nat -> Option Blk) (op : BinOp) (t : TypeId) (x : Operand) (y : Operand) : Option Out :=
 match opd g rd x, opd g rd y with
  | (.agg l, px), (.agg l', py) => match zg3 (tab t).zero l l', op with
   | some r, .eql => some { d := .bool r, vc := px && py && (tab t).eqs }
   | some r, .neq => some { d := .bool !r, vc := px && py && (tab t).eqs }
   | _, _ => none
  | (dx, px), (dy, py) => match bin op dx dy with
   | some (d, p) => some { d, vc := px && py && (p || zk7 hp dx) && binT (tab t) (cstO x y) dx }
   | none => none
def ya2m (tab : Nat -> TI) (own : Bool) (nid : Nat) (g : Bool) (rd : Nat -> D) (hp : Nat -> Option Blk) (op : UnOp) (x : Operand) : Option Out :=
 match opd g rd x with
  | (.bool b, p) => match op with
   | .not => some { d := .bool !b, vc := p }
   | _ => none
  | (.int k n, p) => match op with
   | .neg => some { d := .int k (wr k (0 - n)), vc := p }
   | _ => none
  | _ => none
def zwe (tab : Nat -> TI) (own : Bool) (nid : Nat) (g : Bool) (rd : Nat -> D) (hp : Nat -> Option Blk) (t' : TypeId) (t : TypeId) (x : Operand) : Option Out :=
 match opd g rd x with
  | (.int _ n, p) => match (tab t).ik with
   | some k => some { d := .int k (wr k n), vc := p && (tab t).kind == 6 && !((tab t').kind == 0) }
   | none => none
  | (.str l, p) => bif (tab t).kind == 5 then some { d := .str l, vc := p && !((tab t').kind == 0) }
   else some { d := .imm 1 (l.map ub) 10, vc := p && !((tab t').kind == 0) && (tab t).kind == 3 && (tab (tab t).el).ik == some .u8 && (tab (tab t).el).kind == 6 }
  | (d, p) => match srcD hp 1 d with
   | some (xs, _, q) => match zlw xs with
    | some l => some { d := .str l, vc := p && q && (tab t).kind == 5 && (tab t').kind == 3 && (tab (tab t').el).ik == some .u8 && (tab (tab t').el).kind == 6 }
    | none => none
   | none => none
def ya0g (tab : Nat -> TI) (own : Bool) (nid : Nat) (g : Bool) (rd : Nat -> D) (hp : Nat -> Option Blk) (t : TypeId) : Option Out :=
 some { d := .ptr nid 0, vc := !((tab t).kind == 0), eff := [(nid, some (.box (tab t).zero))], nw := (nid, nid + 1) }
def ya3z (tab : Nat -> TI) (own : Bool) (nid : Nat) (g : Bool) (rd : Nat -> D) (hp : Nat -> Option Blk) (x : Operand) : Option Out :=
 match opd g rd x with
  | (d, p) => some { d := .ptr nid 0, vc := p && d.cells.all oneD && !d.cells.isEmpty, eff := [(nid, some (.box d.cells))], nw := (nid, nid + 1) }
def ya0a (tab : Nat -> TI) (own : Bool) (nid : Nat) (g : Bool) (rd : Nat -> D) (hp : Nat -> Option Blk) (t : TypeId) (ps : Array (Nat × Operand)) : Option Out :=
 match zoc g rd ps.toList with
  | (ds, p) => match zs6 (tab t).offs (tab t).zero ds with
   | some (c, q) => some { d := .agg c, vc := p && q && ((tab t).kind == 2 || (tab t).kind == 4) }
   | none => none
def zsy (tab : Nat -> TI) (own : Bool) (nid : Nat) (g : Bool) (rd : Nat -> D) (hp : Nat -> Option Blk) (t : TypeId) (n : Nat) (ps : Array (Nat × Operand)) : Option Out :=
 match opds g rd (ps.toList.map (·.2)) with
  | (ds, p) => bif own && !ds.isEmpty then some { d := .ref nid (tab t).esz 0 ds.length (some ds.length), vc := p && (tab t).kind == 3 && zoj 0 n ps.toList && decide (n * (tab t).esz <= 16777216) && (ds.all fun d => Nat.beq d.cells.length (tab t).esz && d.cells.all oneD), eff := [(nid, some (.arr (tab t).el (tab t).esz (D.idsL ds).isEmpty ds))], nw := (nid, nid + 1) }
   else some { d := .imm (tab t).esz (unfL ds) (bif okML new1 ds then 9 else 1), vc := p && (tab t).kind == 3 && zoj 0 n ps.toList && decide (n * (tab t).esz <= 16777216) && (D.idsL ds).isEmpty && (ds.all fun d => Nat.beq d.cells.length (tab t).esz && d.cells.all oneD) && okML low3 ds }
def ya2o (tab : Nat -> TI) (own : Bool) (nid : Nat) (g : Bool) (rd : Nat -> D) (hp : Nat -> Option Blk) (t : TypeId) (x : Operand) : Option Out :=
 match opd g rd x with
  | (d, p) => match zro hp ((tab t).kind == 2) (tab t).size d with
   | some (r, q) => some { d := r, vc := p && q && (!((tab t).kind == 0) && !((tab t).kind == 4)) }
   | none => none
def ya06 (tab : Nat -> TI) (own : Bool) (nid : Nat) (g : Bool) (rd : Nat -> D) (hp : Nat -> Option Blk) (t : TypeId) (x : Operand) (y : Operand) : Option Out :=
 match opd g rd x, opd g rd y with
  | (dx, p), (dy, q) => match zo1 hp (tab t).size dy dx with
   | some (r, id, blk) => some { d := .undef, vc := p && q && r && !((tab t).kind == 0) && !((tab t).size == 0), eff := [(id, some blk)] }
   | none => none
def zuw (tab : Nat -> TI) (own : Bool) (nid : Nat) (g : Bool) (rd : Nat -> D) (hp : Nat -> Option Blk) (x : Operand) : Option Out :=
 match opd g rd x with
  | (.ptr id off, p) => some { d := .ptr id off, vc := p }
  | (.eptr id s i off, p) => some { d := .eptr id s i off, vc := p }
  | (.iptr m l, p) => some { d := .iptr m l, vc := p }
  | _ => none
def zt8 (tab : Nat -> TI) (own : Bool) (nid : Nat) (g : Bool) (rd : Nat -> D) (hp : Nat -> Option Blk) (t : TypeId) (x : Operand) (f : Nat) : Option Out :=
 match opd g rd x, (tab t).offs[f]? with
  | (.ptr id off, p), some (o, _, _) => some { d := .ptr id (off + o), vc := p && (tab t).kind == 2 }
  | (.eptr id s i off, p), some (o, _, _) => some { d := .eptr id s i (off + o), vc := p && (tab t).kind == 2 }
  | (.iptr m l, p), some (o, _, _) => some { d := .iptr m (l.drop o), vc := p && Nat.ble o l.length && (tab t).kind == 2 }
  | _, _ => none
def ya09 (tab : Nat -> TI) (own : Bool) (nid : Nat) (g : Bool) (rd : Nat -> D) (hp : Nat -> Option Blk) (t : TypeId) (x : Operand) (f : Nat) : Option Out :=
 match opd g rd x, (tab t).offs[f]? with
  | (.agg l, p), some (o, n, agg) => match part agg n (l.drop o) with
   | some d => some { d, vc := p && Nat.ble (o + n) l.length && (tab t).kind == 2 }
   | none => none
  | _, _ => none
def zt7 (tab : Nat -> TI) (own : Bool) (nid : Nat) (g : Bool) (rd : Nat -> D) (hp : Nat -> Option Blk) (t : TypeId) (x : Operand) (i : Operand) : Option Out :=
 match opd g rd x, opd g rd i with
  | (.imm s l c, p), (.int _ n, q) => some { d := .iptr (c / 8) (nth l n.toNat).cells, vc := p && q && decide (0 <= n) && decide (n < l.length) && Nat.beq s (tab t).esz && (tab t).kind == 3 && Nat.blt (c / 8) 3 }
  | (.ref id s off len _, p), (.int _ n, q) => some { d := .eptr id s (off + n.toNat) 0, vc := p && q && decide (0 <= n) && decide (n < len) && Nat.beq s (tab t).esz && (tab t).kind == 3 }
  | (.ptr id off, p), (.int _ n, q) => some { d := .ptr id (off + n.toNat), vc := p && q && decide (0 <= n) && decide (n < (tab t).size) && (tab t).kind == 4 }
  | _, _ => none
def ya08 (tab : Nat -> TI) (own : Bool) (nid : Nat) (g : Bool) (rd : Nat -> D) (hp : Nat -> Option Blk) (t : TypeId) (x : Operand) (i : Operand) : Option Out :=
 match opd g rd x, opd g rd i with
  | (.str l, p), (.int _ n, q) => some { d := .int .u8 ((l.getD n.toNat 0).toNat : Int), vc := p && q && decide (0 <= n) && decide (n < l.length) && (tab t).kind == 5 }
  | _, _ => none
def ya07 (tab : Nat -> TI) (own : Bool) (nid : Nat) (g : Bool) (rd : Nat -> D) (hp : Nat -> Option Blk) (t : TypeId) (x : Operand) (lo : Option Operand) (hi : Option Operand) : Option Out :=
 match opd g rd x, opdO g rd lo, opdO g rd hi with
  | (.imm s l c, p), (lo, q), (hi, r) => match zgc l.length lo hi with
   | some (a, b, v) => some { d := .imm (tab t).esz ((l.take b.toNat).drop a.toNat) (bif c % 8 == 0 then c else c - c % 8 + 4), vc := p && q && r && v && (Nat.beq s (tab t).esz || l.isEmpty) && (tab t).kind == 3 }
   | none => none
  | (.ref id s off len oc, p), (lo, q), (hi, r) => match zgc len lo hi with
   | some (a, b, v) => some { d := .ref id s (off + a.toNat) (b - a).toNat (capS oc a.toNat), vc := p && q && r && (v || (hi.isSome && zvb hp id s off oc lo hi)) && Nat.beq s (tab t).esz && (tab t).kind == 3 }
   | none => none
  | (.str l, p), (lo, q), (hi, r) => match zgc l.length lo hi with
   | some (a, b, v) => some { d := .str ((l.take b.toNat).drop a.toNat), vc := p && q && r && v && (tab t).kind == 5 }
   | none => none
  | _, _, _ => none
def zxo (tab : Nat -> TI) (own : Bool) (nid : Nat) (g : Bool) (rd : Nat -> D) (hp : Nat -> Option Blk) (t : TypeId) (x : Operand) (lo : Option Operand) (hi : Option Operand) (mx : Operand) : Option Out :=
 match opd g rd x, opdO g rd lo, opdO g rd hi, opd g rd mx with
  | (.imm s l c, p), (lo, q), (hi, r), (mx, u) => match zkf l.length lo hi (some mx) with
   | some (a, b, m, v) => some { d := .imm (tab t).esz ((l.take b.toNat).drop a.toNat) (bif c % 8 == 0 then c else bif m == b then (bif (c % 8 == 1 || c % 8 == 2) then c - c % 8 + 1 else c - c % 8 + 3) else c - c % 8 + 4), vc := p && q && r && u && v && (Nat.beq s (tab t).esz || l.isEmpty) && (tab t).kind == 3 }
   | none => none
  | (.ref id s off len oc, p), (lo, q), (hi, r), (mx, u) => match zkf (match oc with | some c => bif capK c then c else len | none => len) lo hi (some mx) with
   | some (a, b, m, v) => some { d := bif decide (a = m) && (Nat.blt 0 len || zk7 hp (.ref id s off len oc)) then .imm (tab t).esz [] 1 else .ref id s (off + a.toNat) (b - a).toNat (some (m - a).toNat), vc := p && q && r && u && v && Nat.beq s (tab t).esz && (tab t).kind == 3 }
   | none => none
  | _, _, _, _ => none
def zwd (tab : Nat -> TI) (own : Bool) (nid : Nat) (g : Bool) (rd : Nat -> D) (hp : Nat -> Option Blk) (x : Operand) (i : Nat) : Option Out :=
 match opd g rd x with
  | (.tuple l, p) => match l[i]? with
   | some d => some { d, vc := p }
   | none => none
  | _ => none
def zux (tab : Nat -> TI) (own : Bool) (nid : Nat) (g : Bool) (rd : Nat -> D) (hp : Nat -> Option Blk) (f : Fn) (first : Array Operand) (caps : Array Operand) : Option Out :=
 match f, first.toList, opds g rd caps.toList with
  | .func k, [], (ds, p) => some { d := .fn (.func k) ds, vc := p }
  | .func k, [x], ([], p) => match opd g rd x with
   | (d, q) => some { d := .fn (.yield k) [d], vc := p && q }
  | _, _, _ => none
def zp3 (tab : Nat -> TI) (own : Bool) (nid : Nat) (g : Bool) (rd : Nat -> D) (hp : Nat -> Option Blk) (t : TypeId) (x : Operand) : Option Out :=
 match opd g rd x with
  | (d, p) => some { d := .iface t d, vc := p && !((tab t).kind == 0) && !((tab t).kind == 7) }
def zt6 (tab : Nat -> TI) (own : Bool) (nid : Nat) (g : Bool) (rd : Nat -> D) (hp : Nat -> Option Blk) (t : TypeId) (l : Operand) (c : Operand) : Option Out :=
 match opd g rd l, opd g rd c with
  | (.int _ n, p), (.int _ m, q) => some { d := .ref nid (tab t).esz 0 n.toNat (some m.toNat), vc := p && q && decide (0 <= n) && decide (n <= m) && decide (m * (tab t).eby <= 140737488355328) && decide (m <= 9223372036854775807) && (tab t).kind == 3 && Nat.beq (tab t).ezero.length (tab t).esz && ((tab t).eagg || Nat.beq (tab t).esz 1), eff := [(nid, some (.arr (tab t).el (tab t).esz true (List.replicate n.toNat (zdp (tab t)))))], nw := (nid, nid + 1) }
  | _, _ => none
def zwc (tab : Nat -> TI) (own : Bool) (nid : Nat) (g : Bool) (rd : Nat -> D) (hp : Nat -> Option Blk) (t : TypeId) (r : Option Operand) : Option Out :=
 match opdO g rd r with
  | (none, p) => some { d := .mref nid, vc := p, eff := [(nid, some (.map []))], nw := (nid, nid + 1) }
  | (some (.int _ _), p) => some { d := .mref nid, vc := p && (tab t).kind == 9, eff := [(nid, some (.map []))], nw := (nid, nid + 1) }
  | _ => none
def zxp (tab : Nat -> TI) (own : Bool) (nid : Nat) (g : Bool) (rd : Nat -> D) (hp : Nat -> Option Blk) (t : TypeId) (x : Operand) (i : Operand) (ok : Bool) : Option Out :=
 match opd g rd x, opd g rd i with
  | (.mref id, p), (k, q) => match hp id with
   | some (.map es) => match zs5 k es with
    | some r => some { d := bif ok then .tuple [r.getD (zdp (tab t)), .bool r.isSome] else r.getD (zdp (tab t)), vc := p && q && (tab t).kind == 9 && keyD (tab (tab t).el) k }
    | none => none
   | _ => none
  | (.nilmap, p), (k, q) => some { d := bif ok then .tuple [zdp (tab t), .bool false] else zdp (tab t), vc := p && q && (tab t).kind == 9 && keyD (tab (tab t).el) k }
  | _, _ => none
def znh (tab : Nat -> TI) (own : Bool) (nid : Nat) (g : Bool) (rd : Nat -> D) (hp : Nat -> Option Blk) (t : TypeId) (x : Operand) (i : Operand) (y : Operand) : Option Out :=
 match opd g rd x, opd g rd i, opd g rd y with
  | (.mref id, p), (k, q), (v, r) => match hp id with
   | some (.map es) => match updD k v es with
    | some es' => some { d := .undef, vc := p && q && r && (tab t).kind == 9 && keyD (tab (tab t).el) k, eff := [(id, some (.map es'))] }
    | none => none
   | _ => none
  | _, _, _ => none
def ya0e (tab : Nat -> TI) (own : Bool) (nid : Nat) (g : Bool) (rd : Nat -> D) (hp : Nat -> Option Blk) (x : Operand) (t : TypeId) : Option Out :=
 match opd g rd x with
   | (.imm _ l _, p) => some { d := .int .i64 l.length, vc := p && (tab t).kind == 3 }
   | (.ref _ _ _ len _, p) => some { d := .int .i64 len, vc := p && (tab t).kind == 3 }
   | (.str l, p) => some { d := .int .i64 l.length, vc := p && (tab t).kind == 5 }
   | _ => none
def ya0f (tab : Nat -> TI) (own : Bool) (nid : Nat) (g : Bool) (rd : Nat -> D) (hp : Nat -> Option Blk) (x : Operand) (t : TypeId) : Option Out :=
 match opd g rd x with
   | (.imm _ l c, p) => some { d := .int .i64 l.length, vc := p && (tab t).kind == 3 && (Nat.ble (c % 8) 1 || Nat.beq (c % 8) 3) }
   | (.ref _ _ _ _ (some c), p) => some { d := .int .i64 c, vc := p && (tab t).kind == 3 && capK c }
   | _ => none
def zuz (tab : Nat -> TI) (own : Bool) (nid : Nat) (g : Bool) (rd : Nat -> D) (hp : Nat -> Option Blk) (s : Operand) (x : Operand) (t : TypeId) (t' : TypeId) : Option Out :=
 match opd g rd s, opd g rd x with
   | (ds, p), (dx, q) => match srcD hp (tab t).esz dx with
    | some (xs, px, vx) => match zhw hp (tab t).esz ds xs px vx with
     | some out => some { out with vc := p && q && out.vc && (tab t).kind == 3 && ((tab t').kind == 3 || (tab t').kind == 5) }
     | none => match zbv hp nid (tab t).el (tab t).esz (tab t).eby ds xs px vx with
      | some out => some { out with vc := p && q && out.vc && (tab t).kind == 3 && ((tab t').kind == 3 || (tab t').kind == 5) }
      | none => none
    | none => match zlo hp nid (tab t) ds dx with
     | some out => some { out with vc := p && q && out.vc && (tab t).kind == 3 && (tab t').kind == 6 }
     | none => none
def zxq (tab : Nat -> TI) (own : Bool) (nid : Nat) (g : Bool) (rd : Nat -> D) (hp : Nat -> Option Blk) (s : Operand) (x : Operand) (t : TypeId) : Option Out :=
 match opd g rd s, opd g rd x with
   | (.ref id s' off len _, p), (.ref id2 s2' off2 len2 _, q) => match hp id, hp id2 with
    | some (.arr e s'' pu items), some (.arr _ s2 px items2) => some { d := .int .i64 (Nat.min len2 len), vc := p && q && Nat.beq s' (tab t).esz && Nat.beq s'' (tab t).esz && Nat.beq s2' (tab t).esz && Nat.beq s2 (tab t).esz && Nat.ble off items.length && Nat.ble (off2 + Nat.min len2 len) items2.length && (tab t).kind == 3, eff := [(id, some (.arr e s'' (pu && px) (items.take off ++ (items2.drop off2).take (Nat.min len2 len) ++ items.drop (off + Nat.min len2 len))))] }
    | _, _ => none
   | (.ref id s' off len _, p), (dx, q) => match hp id, srcD hp (tab t).esz dx with
    | some (.arr e s'' pu items), some (xs, px, vx) => some { d := .int .i64 (Nat.min xs.length len), vc := p && q && vx && Nat.beq s' (tab t).esz && Nat.beq s'' (tab t).esz && Nat.ble (off + len) items.length && (tab t).kind == 3, eff := [(id, some (.arr e s'' (pu && px) (items.take off ++ xs.take len ++ items.drop (off + Nat.min xs.length len))))] }
    | _, _ => none
   | _, _ => none
def zwf (tab : Nat -> TI) (own : Bool) (nid : Nat) (g : Bool) (rd : Nat -> D) (hp : Nat -> Option Blk) (x : Operand) (t : TypeId) : Option Out :=
 match opd g rd x with
   | (.imm _ [] _, p) => some { d := .tuple [], vc := p && (tab t).kind == 3 }
   | (.ref id s off len _, p) => match hp id with
    | some (.arr e s' pu items) => some { d := .tuple [], vc := p && (tab t).kind == 3 && Nat.beq s (tab t).esz && Nat.beq s' s && Nat.ble (off + len) items.length && Nat.beq (tab t).ezero.length (tab t).esz && ((tab t).eagg || Nat.beq (tab t).esz 1), eff := [(id, some (.arr e s' pu (items.take off ++ List.replicate len (zdp (tab t)) ++ items.drop (off + len))))] }
    | _ => none
   | _ => none
def ya0d (tab : Nat -> TI) (own : Bool) (nid : Nat) (g : Bool) (rd : Nat -> D) (hp : Nat -> Option Blk) (x : Operand) (y : Operand) : Option Out :=
 match opd g rd x, opd g rd y with
   | (.int k a, p), (.int k' b, q) => bif decide (k = k') then some { d := .int k (max a b), vc := p && q } else none
   | _, _ => none
def ya0c (tab : Nat -> TI) (own : Bool) (nid : Nat) (g : Bool) (rd : Nat -> D) (hp : Nat -> Option Blk) (x : Operand) (y : Operand) : Option Out :=
 match opd g rd x, opd g rd y with
   | (.int k a, p), (.int k' b, q) => bif decide (k = k') then some { d := .int k (min a b), vc := p && q } else none
   | _, _ => none
def zuy (tab : Nat -> TI) (own : Bool) (nid : Nat) (g : Bool) (rd : Nat -> D) (hp : Nat -> Option Blk) (x : Operand) (i : Operand) (t : TypeId) : Option Out :=
 match opd g rd x, opd g rd i with
   | (.mref id, p), (k, q) => match hp id with
    | some (.map es) => match delD k es with
     | some es' => some { d := .tuple [], vc := p && q && (tab t).kind == 9 && keyD (tab (tab t).el) k, eff := [(id, some (.map es'))] }
     | none => none
    | _ => none
   | _, _ => none
def ya2p (tab : Nat -> TI) (own : Bool) (nid : Nat) (g : Bool) (rd : Nat -> D) (hp : Nat -> Option Blk) (c : Call) : Option Out :=
 match c.callee, c.args.toList, c.argTypes.toList with
 | .builtin .len, [x], [t] => ya0e tab own nid g rd hp x t
 | .builtin .cap, [x], [t] => ya0f tab own nid g rd hp x t
 | .builtin .append, [s, x], [t, t'] => zuz tab own nid g rd hp s x t t'
 | .builtin .copy, [s, x], [t, _] => zxq tab own nid g rd hp s x t
 | .builtin .clear, [x], [t] => zwf tab own nid g rd hp x t
 | .builtin .max, [x, y], _ => ya0d tab own nid g rd hp x y
 | .builtin .min, [x, y], _ => ya0c tab own nid g rd hp x y
 | .builtin .delete, [x, i], [t, _] => zuy tab own nid g rd hp x i t
 | _, _, _ => none
def aopS (tab : Nat -> TI) (own : Bool) (o : Op) (nid : Nat) (g : Bool) (rd : Nat -> D) (hp : Nat -> Option Blk) : Option Out :=
 match o with
 | .move x => zwb tab own nid g rd hp x
 | .assign x => zwb tab own nid g rd hp x
 | .pick c a b => ya2n tab own nid g rd hp c a b
 | .binOp op t x y _ => ya0b tab own nid g rd hp op t x y
 | .unOp op _ x => ya2m tab own nid g rd hp op x
 | .convert t' t x => zwe tab own nid g rd hp t' t x
 | .alloc t => ya0g tab own nid g rd hp t
 | .box _ x => ya3z tab own nid g rd hp x
 | .build t ps => ya0a tab own nid g rd hp t ps
 | .buildSlice t n ps => zsy tab own nid g rd hp t n ps
 | .load t x => ya2o tab own nid g rd hp t x
 | .store t x y => ya06 tab own nid g rd hp t x y
 | .nilCheck x => zuw tab own nid g rd hp x
 | .fieldAddr t x f => zt8 tab own nid g rd hp t x f
 | .field t x f => ya09 tab own nid g rd hp t x f
 | .indexAddr t x i => zt7 tab own nid g rd hp t x i
 | .index t x i => ya08 tab own nid g rd hp t x i
 | .slice t x lo hi none => ya07 tab own nid g rd hp t x lo hi
 | .slice t x lo hi (some mx) => zxo tab own nid g rd hp t x lo hi mx
 | .extract x i => zwd tab own nid g rd hp x i
 | .makeFunc f first caps => zux tab own nid g rd hp f first caps
 | .makeInterface t x => zp3 tab own nid g rd hp t x
 | .makeSlice t l c => zt6 tab own nid g rd hp t l c
 | .makeMap t r => zwc tab own nid g rd hp t r
 | .lookup t x i ok => zxp tab own nid g rd hp t x i ok
 | .mapUpdate t x i y => znh tab own nid g rd hp t x i y
 | .insert t x i y => znh tab own nid g rd hp t x i y
 | .call c => ya2p tab own nid g rd hp c
 | _ => none
theorem ya2l (tab : Nat -> TI) (own : Bool) (o : Op) (nid : Nat) (g : Bool) (rd : Nat -> D) (hp : Nat -> Option Blk) : aopS tab own o nid g rd hp = aop tab own o nid g rd hp := by
 cases o with
 | slice t x lo hi mx => cases mx <;> rfl
 | _ => rfl
end Go.Tm
namespace Go.Tm
open Go.RowKit Go.WideShapes
inductive Ex where
 | normal
 | exit (id : Nat)
 | ret
def Ex.to : Ex -> Exit
 | .normal => .normal
 | .exit i => .exit i
 | .ret => .ret
def hasN (l : List Nat) (i : Nat) : Bool := l.any (Nat.beq i)
def addW (base : Nat) (ws : List Nat) : List (Nat × Option Blk) -> List Nat
 | [] => ws
 | (i, _) :: r => bif Nat.blt i base && !hasN ws i then addW base (i :: ws) r else addW base ws r
def ya8b (call : FuncId -> List D -> List (Nat × Blk) -> Nat -> Option Out) (c : Call) (f : Operand) (st : St) : Option Out :=
 match opd true (getR st.vars) f with
 | (.fn (.func K) caps, true) => match opds true (getR st.vars) c.args.toList with
  | (ds, true) => call K (ds ++ caps) st.heap st.nx
  | _ => none
 | (.fn (.yield K) pre, true) => match opds true (getR st.vars) c.args.toList with
  | (ds, true) => call K (pre ++ ds) st.heap st.nx
  | _ => none
 | _ => none
def aopX (tab : Nat -> TI) (o : Oper) (st : St) : Option Out :=
 match aopS tab true o.op st.nx true (getR st.vars) (getL st.heap) with
 | some out => bif out.vc && nwB st.nx out.nw then some out else none
 | none => none
def ya02 (call : FuncId -> List D -> List (Nat × Blk) -> Nat -> Option Out) (tab : Nat -> TI) (o : Oper) (st : St) : Option Out :=
 match o.op with
 | .call c => match c.callee with
  | .value f => ya8b call c f st
  | _ => aopX tab o st
 | _ => aopX tab o st
def zzh (call : FuncId -> List D -> List (Nat × Blk) -> Nat -> Option Out) (tab : Nat -> TI) (ops : List Oper) (o : Oper) (st : St) : Option Out :=
 match o.guard with
 | none => ya02 call tab o st
 | some (j, want) => match zq6 ops j with
  | none => none
  | some t => match gval want (getR st.vars t) with
   | some true => match ya02 call tab o st with
    | some out => some { out with d := .when true out.d }
    | none => none
   | some false => some { d := .when false .undef, vc := true }
   | none => none
def zva (call : FuncId -> List D -> List (Nat × Blk) -> Nat -> Option Out) (tab : Nat -> TI) (base : Nat) (dr : Bool) (ops : List Oper) : List Oper -> St -> List Nat -> List FP -> Option (St × List Nat × List FP)
 | [], st, ws, fps => some (st, ws, fps)
 | o :: l, st, ws, fps => match zzh call tab ops o st with
  | some out => zva call tab base dr ops l (st.app o.dst out) (addW base ws out.eff) (bif dr then fps ++ [fpOf o ⟨getR st.vars, getL st.heap, fun _ => true⟩ out] else fps)
  | none => none
def ya0v (pairs : List (Nat × Nat)) (fps : List FP) : Bool := pairs.all fun x => okFP ((fps[x.1]?).getD zkc) ((fps[x.2]?).getD zkc)
def ya5r (ops : Array Oper) (pairs : List (Nat × Nat)) : Bool :=
 (List.range ops.size).all fun i => (List.range i).all fun j => anc ops ops.size i j || pairs.any fun x => Nat.beq x.1 j && Nat.beq x.2 i
def zq3 (n : Nat) (pt : Nat -> List (Nat × Nat)) : Code -> Bool
 | .skip => true
 | .region id ops draw => zj0 n ops draw && (!draw || ya5r ops (pt id))
 | .seq a b => zq3 n pt a && zq3 n pt b
 | .cond c a b => zcz c && zq3 n pt a && zq3 n pt b
 | .block _ b => zq3 n pt b
 | .loop b => zq3 n pt b
 | .exit _ => true
 | .ret => true
 | .label _ => true
 | .scope b => zq3 n pt b
 | _ => false
theorem zxf {ops : Array Oper} {pairs : List (Nat × Nat)} {fps : List FP} (h : ya5r ops pairs = true) (hs : ya0v pairs fps = true) : zk6 ops (fun i => (fps[i]?).getD zkc) = true := by
 unfold zk6
 refine List.all_eq_true.2 fun i hi => List.all_eq_true.2 fun j hj => ?_
 have := List.all_eq_true.1 (List.all_eq_true.1 h i hi) j hj
 simp only [zas] at this ⊢
 rcases this with h1 | h1
 exact .inr h1
 left
 obtain ⟨x, hx, hb⟩ := List.any_eq_true.1 h1
 simp only [za0] at hb
 have := List.all_eq_true.1 hs x hx
 rwa [nb hb.1, nb hb.2] at this
theorem zqo {l : List Nat} {i : Nat} : hasN l i = true ↔ i ∈ l := by
 unfold hasN
 rw [List.any_eq_true]
 constructor
 rintro ⟨x, hx, hb⟩; rw [nb hb]; exact hx
 intro h; exact ⟨i, h, Nat.beq_refl i⟩
theorem zp4 (base : Nat) : ∀ (eff : List (Nat × Option Blk)) (ws : List Nat) (i : Nat), i < base -> i ∉ addW base ws eff -> i ∉ ws /\ i ∉ eff.map (·.1)
 | [], ws, i, _, h => ⟨h, by simp⟩
 | (j, b) :: r, ws, i, hi, h => by
  simp only [addW] at h
  cases hc : (Nat.blt j base && !hasN ws j)
  rw [hc] at h
  obtain ⟨h1, h2⟩ := zp4 base r ws i hi h
  refine ⟨h1, ?_⟩
  simp only [zah, List.mem_cons, not_or]
  refine ⟨?_, h2⟩
  rintro rfl
  simp only [Bool.and_eq_false_iff, Bool.not_eq_false'] at hc
  rcases hc with hc | hc
  have : Nat.blt i base = true := zam hi
  rw [hc] at this; cases this
  exact h1 (zqo.1 hc)
  rw [hc] at h
  obtain ⟨h1, h2⟩ := zp4 base r (j :: ws) i hi h
  simp only [List.mem_cons, not_or] at h1
  exact ⟨h1.2, by simp only [zah, List.mem_cons, not_or]; exact ⟨h1.1, h2⟩⟩
def zk2 (P : Program) (call : FuncId -> List D -> List (Nat × Blk) -> Nat -> Option Out) : Prop :=
 ∀ K args heap nx out, call K args heap nx = some out -> ∃ H, zby P K args H out.d out.eff out.nw /\ (∀ id b, getL H id = some b -> getL heap id = some b) /\ (∀ x ∈ out.eff, x.1 ∈ H.map (·.1) \/ out.nw.1 <= x.1 /\ x.1 < out.nw.2) /\ out.met = H.map (·.1) /\ out.vc = true /\ out.nw.1 = nx /\ nx <= out.nw.2
section
variable {P : Program} {tab : Nat -> TI} {call : FuncId -> List D -> List (Nat × Blk) -> Nat -> Option Out}
theorem ya5v {st : St} {dst : Option Nat} {out : Out} (h1 : out.nw.1 = st.nx) (h2 : st.nx <= out.nw.2) : (st.app dst out).nx = out.nw.2 := by
 unfold St.app
 cases hb : Nat.blt out.nw.1 out.nw.2
 have : ¬ out.nw.1 < out.nw.2 := by
  intro h
  have : Nat.blt out.nw.1 out.nw.2 = true := zam h
  rw [hb] at this; cases this
 simp only [cond_false]
 omega
 simp only [cond_true]
theorem zsg (hc : zk2 P call) {o : Oper} {st : St} {out : Out} (h : ya02 call tab o st = some out) :
  (out.nw = (0, 0) \/ out.nw.1 = st.nx /\ st.nx <= out.nw.2) /\ out.vc = true /\ ∀ lim, out.nw.2 <= lim -> Core P tab true o (st.fs lim) out := by
 have plain : aopX tab o st = some out -> (out.nw = (0, 0) \/ out.nw.1 = st.nx /\ st.nx <= out.nw.2) /\ out.vc = true /\ ∀ lim, out.nw.2 <= lim -> ∃ nid, aop tab true o.op nid true (st.fs lim).rd (st.fs lim).hp = some out /\ out.vc = true /\ (out.nw = (nid, nid + 1) -> (st.fs lim).nu nid = true) := by
  intro h
  unfold aopX at h
  split at h
  rename_i out' ha
  rw [ya2l] at ha
  cases hb : (out'.vc && nwB st.nx out'.nw)
  rw [hb] at h; cases h
  rw [hb] at h
  cases h
  simp only [za0] at hb
  refine ⟨?_, hb.1, fun lim hlim => ⟨st.nx, ha, hb.1, fun e => ?_⟩⟩
  rcases zyc hb.2 with e | e
  exact .inl e
  right; rw [e]; exact ⟨rfl, Nat.le_succ _⟩
  rw [e] at hlim
  simp only [St.fs, za0, decide_eq_true_eq]
  have hlim : st.nx + 1 <= lim := hlim
  omega
  cases h
 unfold ya02 at h
 unfold Core
 split at h
 rename_i c ho
 simp only [ho]
 split at h
 rename_i f hcal
 simp only [hcal]
 unfold ya8b at h
 split at h
 rename_i K caps hopd
 split at h
 rename_i ds hopds
 obtain ⟨H, g1, g2, g3, g4, g5, g6, g7⟩ := hc _ _ _ _ _ h
 refine ⟨.inr ⟨g6, g7⟩, g5, fun lim hlim => ?_⟩
 refine .inl ⟨K, caps, true, ds, true, out.d, hopd, rfl, hopds, rfl, .inr (.inl ⟨H, out.eff, out.nw, g1, g2, fun id k1 k2 => ?_, g3, ?_⟩)⟩
 simp only [St.fs, za0, decide_eq_true_eq]
 omega
 cases out; simp only at g4 g5; rw [g4, g5]
 cases h
 rename_i K pre hopd
 split at h
 rename_i ds hopds
 obtain ⟨H, g1, g2, g3, g4, g5, g6, g7⟩ := hc _ _ _ _ _ h
 refine ⟨.inr ⟨g6, g7⟩, g5, fun lim hlim => ?_⟩
 refine .inr ⟨K, pre, ds, out.d, H, out.eff, out.nw, hopd, hopds, g1, g2, fun id k1 k2 => ?_, g3, ?_⟩
 simp only [St.fs, za0, decide_eq_true_eq]
 omega
 cases out; simp only at g4 g5; rw [g4, g5]
 cases h
 cases h
 rename_i hno
 have := plain h
 rw [ho] at this
 refine ⟨this.1, this.2.1, fun lim hlim => ?_⟩
 split
 rename_i f hcal; exact absurd hcal (hno f)
 exact this.2.2 lim hlim
 rename_i hno
 have := plain h
 refine ⟨this.1, this.2.1, fun lim hlim => ?_⟩
 split
 rename_i c hop; exact absurd hop (hno c)
 exact this.2.2 lim hlim
theorem zqy (hc : zk2 P call) {ops : Array Oper} {o : Oper} {st : St} {out : Out} (h : zzh call tab ops.toList o st = some out) :
  st.nx <= (st.app o.dst out).nx /\ ∀ lim, (st.app o.dst out).nx <= lim -> zk5 P tab true ops o (st.fs lim) out /\ ∀ id, out.nw.1 <= id -> id < out.nw.2 -> st.nx <= id := by
 have hn : ∀ (out : Out), (out.nw = (0, 0) \/ out.nw.1 = st.nx /\ st.nx <= out.nw.2) -> st.nx <= (st.app o.dst out).nx /\ out.nw.2 <= (st.app o.dst out).nx /\ ∀ id, out.nw.1 <= id -> id < out.nw.2 -> st.nx <= id := by
  intro out h
  rcases h with h | ⟨h1, h2⟩
  refine ⟨ya2i (.inl h), by rw [h]; exact Nat.zero_le _, fun id k1 k2 => ?_⟩
  rw [h] at k2
  exact absurd k2 (Nat.not_lt_zero _)
  rw [ya5v h1 h2]
  exact ⟨h2, za4 _, fun id k1 _ => by omega⟩
 unfold zzh at h
 unfold zk5
 split at h
 rename_i hg
 simp only [hg]
 obtain ⟨g1, g2, g3⟩ := zsg hc h
 obtain ⟨k1, k2, k3⟩ := hn out g1
 exact ⟨k1, fun lim hlim => ⟨g3 lim (zar k2 hlim), k3⟩⟩
 rename_i j want hg
 simp only [hg]
 split at h
 cases h
 rename_i t ht
 have ht' : zmg ops j = some t := by
  rw [zlk] at ht
  simpa [zmg] using ht
 split at h
 rename_i hgv
 split at h
 rename_i out' ho'
 cases h
 obtain ⟨g1, g2, g3⟩ := zsg hc ho'
 obtain ⟨k1, k2, k3⟩ := hn { out' with d := .when true out'.d } g1
 refine ⟨k1, fun lim hlim => ⟨⟨t, true, out', ht', hgv, fun _ => g3 lim (zar k2 hlim), ?_⟩, k3⟩⟩
 cases out'
 simp only at g2
 simp only [cond_true, g2]
 cases h
 rename_i hgv
 cases h
 refine ⟨za4 _, fun lim hlim => ⟨⟨t, false, { d := .undef, vc := true }, ht', hgv, (fun h => by cases h), rfl⟩, fun id k1 k2 => ?_⟩⟩
 exact absurd k2 (Nat.not_lt_zero _)
 cases h
theorem zpy (hc : zk2 P call) {base : Nat} {dr : Bool} {ops : Array Oper} : ∀ (l : List Oper) (st st' : St) (ws ws' : List Nat) (fps fps' : List FP), zva call tab base dr ops.toList l st ws fps = some (st', ws', fps') ->
  st.nx <= st'.nx /\ (∀ id, id < base -> id ∉ ws' -> id ∉ ws /\ getL st'.heap id = getL st.heap id) /\ ∀ lim, st'.nx <= lim -> ∃ os, Chain P tab true lim ops l st os st' /\ (dr = true -> fps' = fps ++ os.map (·.2))
 | [], st, st', ws, ws', fps, fps', h => by
  simp only [zva, za3, za6] at h
  obtain ⟨rfl, rfl, rfl⟩ := h
  exact ⟨za4 _, fun id _ h => ⟨h, rfl⟩, fun lim _ => ⟨[], .nil _, fun _ => by simp⟩⟩
 | o :: l, st, st', ws, ws', fps, fps', h => by
  simp only [zva] at h
  split at h
  rename_i out hs
  obtain ⟨h1, h2⟩ := zqy hc hs
  obtain ⟨h3, h4, h5⟩ := zpy hc l _ _ _ _ _ _ h
  refine ⟨zar h1 h3, fun id hid hw => ?_, fun lim hlim => ?_⟩
  obtain ⟨k1, k2⟩ := h4 id hid hw
  obtain ⟨k3, k4⟩ := zp4 base _ _ id hid k1
  refine ⟨k3, ?_⟩
  rw [k2]
  simp only [St.app, zok]
  exact zsa k4
  obtain ⟨os, k1, k2⟩ := h5 lim hlim
  obtain ⟨f1, f2⟩ := h2 lim (zar h3 hlim)
  refine ⟨(out, fpOf o (st.fs lim) out) :: os, .cons f1 f2 k1, fun hd => ?_⟩
  subst hd
  rw [k2 rfl]
  simp [zum o st lim]
  cases h
theorem Ok.label {lim n l : Nat} {st : St} {Q : Exit -> St -> Prop} (h : Q .normal st) : Ok P lim n (.label l) st Q := fun _ F _ _ g hF hR => wp_label ⟨st, F, g, h, hF, hR⟩
theorem Ok.scope {lim n : Nat} {c : Code} {st : St} {Q : Exit -> St -> Prop} (h : Ok P lim n c st fun e s => (∀ l, e ≠ .goto l) /\ Q e s) : Ok P lim n (.scope c) st Q := by
 intro E F a w g hF hR
 refine wp_scope_straight (wp_mono (h E F a w g hF hR) ?_)
 rintro e a' w' ⟨st', F', g', ⟨hg, hq⟩, h2, h3⟩
 cases e with
 | goto l => exact absurd rfl (hg l)
 | _ => exact ⟨st', F', g', hq, h2, h3⟩
def FtOk (P : Program) (ft : Nat -> Option Func) (pt : Nat -> Nat -> List (Nat × Nat)) : Prop :=
 ∀ K fn, ft K = some fn -> P.funcs[K]? = some fn /\ fn.name ≠ "runtime.NumGoroutine" /\ ∀ c, fn.body = some c -> zq3 fn.ntmps (pt K) c = true
end
end Go.Tm

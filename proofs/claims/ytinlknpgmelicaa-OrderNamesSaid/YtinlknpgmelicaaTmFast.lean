/- The abstract operation, one function an operation: reckons faster; by program (split.py). -/
import Derived.Test.YtinlknpgmelicaaTmAop
namespace Go.Tm
set_option linter.unusedVariables false

def aopF_move (tab : Nat → TI) (own : Bool) (nid : Nat) (g : Bool) (rd : Nat → D) (hp : Nat → Option Blk) (x : Operand) : Option Out :=
  match opd g rd x with
    | (d, p) => some { d, vc := p }

def aopF_pick (tab : Nat → TI) (own : Bool) (nid : Nat) (g : Bool) (rd : Nat → D) (hp : Nat → Option Blk) (c : Operand) (a : Operand) (b : Operand) : Option Out :=
  match opd g rd c with
    | (.bool b0, p) => match opd (g && b0) rd a, opd (g && !b0) rd b with
      | (da, pa), (db, pb) => match dpick b0 da db with
        | some d => some { d, vc := p && pa && pb }
        | none => none
    | _ => none

def aopF_binOp (tab : Nat → TI) (own : Bool) (nid : Nat) (g : Bool) (rd : Nat → D) (hp : Nat → Option Blk) (op : BinOp) (t : TypeId) (x : Operand) (y : Operand) : Option Out :=
  match opd g rd x, opd g rd y with
    | (.agg l, px), (.agg l', py) => match aggEq (tab t).zero l l', op with
      | some r, .eql => some { d := .bool r, vc := px && py && (tab t).eqs }
      | some r, .neq => some { d := .bool !r, vc := px && py && (tab t).eqs }
      | _, _ => none
    | (dx, px), (dy, py) => match bin op dx dy with
      | some (d, p) => some { d, vc := px && py && (p || roomNZ hp dx) && binT (tab t) dx }
      | none => none

def aopF_unOp (tab : Nat → TI) (own : Bool) (nid : Nat) (g : Bool) (rd : Nat → D) (hp : Nat → Option Blk) (op : UnOp) (x : Operand) : Option Out :=
  match opd g rd x with
    | (.bool b, p) => match op with
      | .not => some { d := .bool !b, vc := p }
      | _ => none
    | (.int k n, p) => match op with
      | .neg => some { d := .int k (wr k (0 - n)), vc := p }
      | _ => none
    | _ => none

def aopF_convert (tab : Nat → TI) (own : Bool) (nid : Nat) (g : Bool) (rd : Nat → D) (hp : Nat → Option Blk) (t' : TypeId) (t : TypeId) (x : Operand) : Option Out :=
  match opd g rd x with
    | (.int _ n, p) => match (tab t).ik with
      | some k => some { d := .int k (wr k n), vc := p && (tab t).kind == 6 && !((tab t').kind == 0) }
      | none => none
    | (.str l, p) => bif (tab t).kind == 5 then some { d := .str l, vc := p && !((tab t').kind == 0) }
      else some { d := .imm 1 (l.map ub) 10, vc := p && !((tab t').kind == 0) && (tab t).kind == 3 && (tab (tab t).el).ik == some .u8 && (tab (tab t).el).kind == 6 }
    | (d, p) => match srcD hp 1 d with
      | some (xs, _, q) => match bytesD xs with
        | some l => some { d := .str l, vc := p && q && (tab t).kind == 5 && (tab t').kind == 3 && (tab (tab t').el).ik == some .u8 && (tab (tab t').el).kind == 6 }
        | none => none
      | none => none

def aopF_alloc (tab : Nat → TI) (own : Bool) (nid : Nat) (g : Bool) (rd : Nat → D) (hp : Nat → Option Blk) (t : TypeId) : Option Out :=
  some { d := .ptr nid 0, vc := !((tab t).kind == 0), eff := [(nid, some (.box (tab t).zero))], nw := (nid, nid + 1) }

def aopF_box (tab : Nat → TI) (own : Bool) (nid : Nat) (g : Bool) (rd : Nat → D) (hp : Nat → Option Blk) (x : Operand) : Option Out :=
  match opd g rd x with
    | (d, p) => some { d := .ptr nid 0, vc := p && d.cells.all oneD && !d.cells.isEmpty, eff := [(nid, some (.box d.cells))], nw := (nid, nid + 1) }

def aopF_build (tab : Nat → TI) (own : Bool) (nid : Nat) (g : Bool) (rd : Nat → D) (hp : Nat → Option Blk) (t : TypeId) (ps : Array (Nat × Operand)) : Option Out :=
  match opdsL g rd ps.toList with
    | (ds, p) => match fillD (tab t).offs (tab t).zero ds with
      | some (c, q) => some { d := .agg c, vc := p && q && (tab t).kind == 2 }
      | none => none

def aopF_buildSlice (tab : Nat → TI) (own : Bool) (nid : Nat) (g : Bool) (rd : Nat → D) (hp : Nat → Option Blk) (t : TypeId) (n : Nat) (ps : Array (Nat × Operand)) : Option Out :=
  match opds g rd (ps.toList.map (·.2)) with
    | (ds, p) => bif own && !ds.isEmpty then some { d := .ref nid (tab t).esz 0 ds.length (some ds.length), vc := p && (tab t).kind == 3 && idxOk 0 n ps.toList && decide (n * (tab t).esz ≤ 16777216) && (ds.all fun d => Nat.beq d.cells.length (tab t).esz && d.cells.all oneD), eff := [(nid, some (.arr (tab t).el (tab t).esz (D.idsL ds).isEmpty ds))], nw := (nid, nid + 1) }
      else some { d := .imm (tab t).esz (unfL ds) (bif okML new1 ds then 9 else 1), vc := p && (tab t).kind == 3 && idxOk 0 n ps.toList && decide (n * (tab t).esz ≤ 16777216) && (D.idsL ds).isEmpty && (ds.all fun d => Nat.beq d.cells.length (tab t).esz && d.cells.all oneD) && okML low3 ds }

def aopF_load (tab : Nat → TI) (own : Bool) (nid : Nat) (g : Bool) (rd : Nat → D) (hp : Nat → Option Blk) (t : TypeId) (x : Operand) : Option Out :=
  match opd g rd x with
    | (d, p) => match loadD hp ((tab t).kind == 2) (tab t).size d with
      | some (r, q) => some { d := r, vc := p && q && !((tab t).kind == 0) }
      | none => none

def aopF_store (tab : Nat → TI) (own : Bool) (nid : Nat) (g : Bool) (rd : Nat → D) (hp : Nat → Option Blk) (t : TypeId) (x : Operand) (y : Operand) : Option Out :=
  match opd g rd x, opd g rd y with
    | (dx, p), (dy, q) => match storeD hp (tab t).size dy dx with
      | some (r, id, blk) => some { d := .undef, vc := p && q && r && !((tab t).kind == 0) && !((tab t).size == 0), eff := [(id, some blk)] }
      | none => none

def aopF_nilCheck (tab : Nat → TI) (own : Bool) (nid : Nat) (g : Bool) (rd : Nat → D) (hp : Nat → Option Blk) (x : Operand) : Option Out :=
  match opd g rd x with
    | (.ptr id off, p) => some { d := .ptr id off, vc := p }
    | (.eptr id s i off, p) => some { d := .eptr id s i off, vc := p }
    | (.iptr m l, p) => some { d := .iptr m l, vc := p }
    | _ => none

def aopF_fieldAddr (tab : Nat → TI) (own : Bool) (nid : Nat) (g : Bool) (rd : Nat → D) (hp : Nat → Option Blk) (t : TypeId) (x : Operand) (f : Nat) : Option Out :=
  match opd g rd x, (tab t).offs[f]? with
    | (.ptr id off, p), some (o, _, _) => some { d := .ptr id (off + o), vc := p && (tab t).kind == 2 }
    | (.eptr id s i off, p), some (o, _, _) => some { d := .eptr id s i (off + o), vc := p && (tab t).kind == 2 }
    | (.iptr m l, p), some (o, _, _) => some { d := .iptr m (l.drop o), vc := p && Nat.ble o l.length && (tab t).kind == 2 }
    | _, _ => none

def aopF_field (tab : Nat → TI) (own : Bool) (nid : Nat) (g : Bool) (rd : Nat → D) (hp : Nat → Option Blk) (t : TypeId) (x : Operand) (f : Nat) : Option Out :=
  match opd g rd x, (tab t).offs[f]? with
    | (.agg l, p), some (o, n, agg) => match part agg n (l.drop o) with
      | some d => some { d, vc := p && Nat.ble (o + n) l.length && (tab t).kind == 2 }
      | none => none
    | _, _ => none

def aopF_indexAddr (tab : Nat → TI) (own : Bool) (nid : Nat) (g : Bool) (rd : Nat → D) (hp : Nat → Option Blk) (t : TypeId) (x : Operand) (i : Operand) : Option Out :=
  match opd g rd x, opd g rd i with
    | (.imm s l c, p), (.int _ n, q) => some { d := .iptr (c / 8) (nth l n.toNat).cells, vc := p && q && decide (0 ≤ n) && decide (n < l.length) && Nat.beq s (tab t).esz && (tab t).kind == 3 && Nat.blt (c / 8) 3 }
    | (.ref id s off len _, p), (.int _ n, q) => some { d := .eptr id s (off + n.toNat) 0, vc := p && q && decide (0 ≤ n) && decide (n < len) && Nat.beq s (tab t).esz && (tab t).kind == 3 }
    | _, _ => none

def aopF_index (tab : Nat → TI) (own : Bool) (nid : Nat) (g : Bool) (rd : Nat → D) (hp : Nat → Option Blk) (t : TypeId) (x : Operand) (i : Operand) : Option Out :=
  match opd g rd x, opd g rd i with
    | (.str l, p), (.int _ n, q) => some { d := .int .u8 ((l.getD n.toNat 0).toNat : Int), vc := p && q && decide (0 ≤ n) && decide (n < l.length) && (tab t).kind == 5 }
    | _, _ => none

def aopF_slice (tab : Nat → TI) (own : Bool) (nid : Nat) (g : Bool) (rd : Nat → D) (hp : Nat → Option Blk) (t : TypeId) (x : Operand) (lo : Option Operand) (hi : Option Operand) : Option Out :=
  match opd g rd x, opdO g rd lo, opdO g rd hi with
    | (.imm s l c, p), (lo, q), (hi, r) => match sliceD l.length lo hi with
      | some (a, b, v) => some { d := .imm (tab t).esz ((l.take b.toNat).drop a.toNat) (bif c % 8 == 0 then c else c - c % 8 + 4), vc := p && q && r && v && (Nat.beq s (tab t).esz || l.isEmpty) && (tab t).kind == 3 }
      | none => none
    | (.ref id s off len oc, p), (lo, q), (hi, r) => match sliceD len lo hi with
      | some (a, b, v) => some { d := .ref id s (off + a.toNat) (b - a).toNat (capS oc a.toNat), vc := p && q && r && (v || (hi.isSome && roomV hp id s off oc lo hi)) && Nat.beq s (tab t).esz && (tab t).kind == 3 }
      | none => none
    | (.str l, p), (lo, q), (hi, r) => match sliceD l.length lo hi with
      | some (a, b, v) => some { d := .str ((l.take b.toNat).drop a.toNat), vc := p && q && r && v && (tab t).kind == 5 }
      | none => none
    | _, _, _ => none

def aopF_slice3 (tab : Nat → TI) (own : Bool) (nid : Nat) (g : Bool) (rd : Nat → D) (hp : Nat → Option Blk) (t : TypeId) (x : Operand) (lo : Option Operand) (hi : Option Operand) (mx : Operand) : Option Out :=
  match opd g rd x, opdO g rd lo, opdO g rd hi, opd g rd mx with
    | (.imm s l c, p), (lo, q), (hi, r), (mx, u) => match slice3D l.length lo hi (some mx) with
      | some (a, b, m, v) => some { d := .imm (tab t).esz ((l.take b.toNat).drop a.toNat) (bif c % 8 == 0 then c else bif m == b then (bif (c % 8 == 1 || c % 8 == 2) then c - c % 8 + 1 else c - c % 8 + 3) else c - c % 8 + 4), vc := p && q && r && u && v && (Nat.beq s (tab t).esz || l.isEmpty) && (tab t).kind == 3 }
      | none => none
    | (.ref id s off len oc, p), (lo, q), (hi, r), (mx, u) => match slice3D (match oc with | some c => c | none => len) lo hi (some mx) with
      | some (a, b, m, v) => some { d := bif decide (a = m) && (Nat.blt 0 len || roomNZ hp (.ref id s off len oc)) then .imm (tab t).esz [] 1 else .ref id s (off + a.toNat) (b - a).toNat (some (m - a).toNat), vc := p && q && r && u && v && Nat.beq s (tab t).esz && (tab t).kind == 3 }
      | none => none
    | _, _, _, _ => none

def aopF_extract (tab : Nat → TI) (own : Bool) (nid : Nat) (g : Bool) (rd : Nat → D) (hp : Nat → Option Blk) (x : Operand) (i : Nat) : Option Out :=
  match opd g rd x with
    | (.tuple l, p) => match l[i]? with
      | some d => some { d, vc := p }
      | none => none
    | _ => none

def aopF_makeFunc (tab : Nat → TI) (own : Bool) (nid : Nat) (g : Bool) (rd : Nat → D) (hp : Nat → Option Blk) (f : Fn) (first : Array Operand) (caps : Array Operand) : Option Out :=
  match first.toList, opds g rd caps.toList with
    | [], (ds, p) => some { d := .fn f ds, vc := p }
    | _, _ => none

def aopF_makeInterface (tab : Nat → TI) (own : Bool) (nid : Nat) (g : Bool) (rd : Nat → D) (hp : Nat → Option Blk) (t : TypeId) (x : Operand) : Option Out :=
  match opd g rd x with
    | (d, p) => some { d := .iface t d, vc := p && !((tab t).kind == 0) && !((tab t).kind == 7) }

def aopF_makeSlice (tab : Nat → TI) (own : Bool) (nid : Nat) (g : Bool) (rd : Nat → D) (hp : Nat → Option Blk) (t : TypeId) (l : Operand) (c : Operand) : Option Out :=
  match opd g rd l, opd g rd c with
    | (.int _ n, p), (.int _ m, q) => some { d := .ref nid (tab t).esz 0 n.toNat (some m.toNat), vc := p && q && decide (0 ≤ n) && decide (n ≤ m) && decide (m * (tab t).eby ≤ 140737488355328) && decide (m ≤ 9223372036854775807) && (tab t).kind == 3 && Nat.beq (tab t).ezero.length (tab t).esz && ((tab t).eagg || Nat.beq (tab t).esz 1), eff := [(nid, some (.arr (tab t).el (tab t).esz true (List.replicate n.toNat (zeroEl (tab t)))))], nw := (nid, nid + 1) }
    | _, _ => none

def aopF_makeMap (tab : Nat → TI) (own : Bool) (nid : Nat) (g : Bool) (rd : Nat → D) (hp : Nat → Option Blk) (t : TypeId) (r : Option Operand) : Option Out :=
  match opdO g rd r with
    | (none, p) => some { d := .mref nid, vc := p, eff := [(nid, some (.map []))], nw := (nid, nid + 1) }
    | (some (.int _ _), p) => some { d := .mref nid, vc := p && (tab t).kind == 9, eff := [(nid, some (.map []))], nw := (nid, nid + 1) }
    | _ => none

def aopF_lookup (tab : Nat → TI) (own : Bool) (nid : Nat) (g : Bool) (rd : Nat → D) (hp : Nat → Option Blk) (t : TypeId) (x : Operand) (i : Operand) (ok : Bool) : Option Out :=
  match opd g rd x, opd g rd i with
    | (.mref id, p), (k, q) => match hp id with
      | some (.map es) => match findD k es with
        | some r => some { d := bif ok then .tuple [r.getD (zeroEl (tab t)), .bool r.isSome] else r.getD (zeroEl (tab t)), vc := p && q && (tab t).kind == 9 && keyD (tab (tab t).el) k }
        | none => none
      | _ => none
    | (.nilmap, p), (k, q) => some { d := bif ok then .tuple [zeroEl (tab t), .bool false] else zeroEl (tab t), vc := p && q && (tab t).kind == 9 && keyD (tab (tab t).el) k }
    | _, _ => none

def aopF_mapUpdate (tab : Nat → TI) (own : Bool) (nid : Nat) (g : Bool) (rd : Nat → D) (hp : Nat → Option Blk) (t : TypeId) (x : Operand) (i : Operand) (y : Operand) : Option Out :=
  match opd g rd x, opd g rd i, opd g rd y with
    | (.mref id, p), (k, q), (v, r) => match hp id with
      | some (.map es) => match updD k v es with
        | some es' => some { d := .undef, vc := p && q && r && (tab t).kind == 9 && keyD (tab (tab t).el) k, eff := [(id, some (.map es'))] }
        | none => none
      | _ => none
    | _, _, _ => none

def aopF_b_len (tab : Nat → TI) (own : Bool) (nid : Nat) (g : Bool) (rd : Nat → D) (hp : Nat → Option Blk) (x : Operand) (t : TypeId) : Option Out :=
  match opd g rd x with
      | (.imm _ l _, p) => some { d := .int .i64 l.length, vc := p && (tab t).kind == 3 }
      | (.ref _ _ _ len _, p) => some { d := .int .i64 len, vc := p && (tab t).kind == 3 }
      | (.str l, p) => some { d := .int .i64 l.length, vc := p && (tab t).kind == 5 }
      | _ => none

def aopF_b_cap (tab : Nat → TI) (own : Bool) (nid : Nat) (g : Bool) (rd : Nat → D) (hp : Nat → Option Blk) (x : Operand) (t : TypeId) : Option Out :=
  match opd g rd x with
      | (.imm _ l c, p) => some { d := .int .i64 l.length, vc := p && (tab t).kind == 3 && (Nat.ble (c % 8) 1 || Nat.beq (c % 8) 3) }
      | (.ref _ _ _ _ (some c), p) => some { d := .int .i64 c, vc := p && (tab t).kind == 3 }
      | _ => none

def aopF_b_append (tab : Nat → TI) (own : Bool) (nid : Nat) (g : Bool) (rd : Nat → D) (hp : Nat → Option Blk) (s : Operand) (x : Operand) (t : TypeId) (t' : TypeId) : Option Out :=
  match opd g rd s, opd g rd x with
      | (ds, p), (dx, q) => match srcD hp (tab t).esz dx with
        | some (xs, px, vx) => match appendIn hp (tab t).esz ds xs px vx with
          | some out => some { out with vc := p && q && out.vc && (tab t).kind == 3 && ((tab t').kind == 3 || (tab t').kind == 5) }
          | none => match appendD hp nid (tab t).el (tab t).esz (tab t).eby ds xs px vx with
            | some out => some { out with vc := p && q && out.vc && (tab t).kind == 3 && ((tab t').kind == 3 || (tab t').kind == 5) }
            | none => none
        | none => match appendZ hp nid (tab t) ds dx with
          | some out => some { out with vc := p && q && out.vc && (tab t).kind == 3 && (tab t').kind == 6 }
          | none => none

def aopF_b_copy (tab : Nat → TI) (own : Bool) (nid : Nat) (g : Bool) (rd : Nat → D) (hp : Nat → Option Blk) (s : Operand) (x : Operand) (t : TypeId) : Option Out :=
  match opd g rd s, opd g rd x with
      | (.ref id s' off len _, p), (.ref id2 s2' off2 len2 _, q) => match hp id, hp id2 with
        | some (.arr e s'' pu items), some (.arr _ s2 px items2) => some { d := .int .i64 (Nat.min len2 len), vc := p && q && Nat.beq s' (tab t).esz && Nat.beq s'' (tab t).esz && Nat.beq s2' (tab t).esz && Nat.beq s2 (tab t).esz && Nat.ble off items.length && Nat.ble (off2 + Nat.min len2 len) items2.length && (tab t).kind == 3, eff := [(id, some (.arr e s'' (pu && px) (items.take off ++ (items2.drop off2).take (Nat.min len2 len) ++ items.drop (off + Nat.min len2 len))))] }
        | _, _ => none
      | (.ref id s' off len _, p), (dx, q) => match hp id, srcD hp (tab t).esz dx with
        | some (.arr e s'' pu items), some (xs, px, vx) => some { d := .int .i64 (Nat.min xs.length len), vc := p && q && vx && Nat.beq s' (tab t).esz && Nat.beq s'' (tab t).esz && Nat.ble (off + len) items.length && (tab t).kind == 3, eff := [(id, some (.arr e s'' (pu && px) (items.take off ++ xs.take len ++ items.drop (off + Nat.min xs.length len))))] }
        | _, _ => none
      | _, _ => none

def aopF_b_clear (tab : Nat → TI) (own : Bool) (nid : Nat) (g : Bool) (rd : Nat → D) (hp : Nat → Option Blk) (x : Operand) (t : TypeId) : Option Out :=
  match opd g rd x with
      | (.imm _ [] _, p) => some { d := .tuple [], vc := p && (tab t).kind == 3 }
      | (.ref id s off len _, p) => match hp id with
        | some (.arr e s' pu items) => some { d := .tuple [], vc := p && (tab t).kind == 3 && Nat.beq s (tab t).esz && Nat.beq s' s && Nat.ble (off + len) items.length && Nat.beq (tab t).ezero.length (tab t).esz && ((tab t).eagg || Nat.beq (tab t).esz 1), eff := [(id, some (.arr e s' pu (items.take off ++ List.replicate len (zeroEl (tab t)) ++ items.drop (off + len))))] }
        | _ => none
      | _ => none

def aopF_b_max (tab : Nat → TI) (own : Bool) (nid : Nat) (g : Bool) (rd : Nat → D) (hp : Nat → Option Blk) (x : Operand) (y : Operand) : Option Out :=
  match opd g rd x, opd g rd y with
      | (.int k a, p), (.int k' b, q) => bif decide (k = k') then some { d := .int k (max a b), vc := p && q } else none
      | _, _ => none

def aopF_b_min (tab : Nat → TI) (own : Bool) (nid : Nat) (g : Bool) (rd : Nat → D) (hp : Nat → Option Blk) (x : Operand) (y : Operand) : Option Out :=
  match opd g rd x, opd g rd y with
      | (.int k a, p), (.int k' b, q) => bif decide (k = k') then some { d := .int k (min a b), vc := p && q } else none
      | _, _ => none

def aopF_call (tab : Nat → TI) (own : Bool) (nid : Nat) (g : Bool) (rd : Nat → D) (hp : Nat → Option Blk) (c : Call) : Option Out :=
  match c.callee, c.args.toList, c.argTypes.toList with
  | .builtin .len, [x], [t] => aopF_b_len tab own nid g rd hp x t
  | .builtin .cap, [x], [t] => aopF_b_cap tab own nid g rd hp x t
  | .builtin .append, [s, x], [t, t'] => aopF_b_append tab own nid g rd hp s x t t'
  | .builtin .copy, [s, x], [t, _] => aopF_b_copy tab own nid g rd hp s x t
  | .builtin .clear, [x], [t] => aopF_b_clear tab own nid g rd hp x t
  | .builtin .max, [x, y], _ => aopF_b_max tab own nid g rd hp x y
  | .builtin .min, [x, y], _ => aopF_b_min tab own nid g rd hp x y
  | _, _, _ => none

def aopS (tab : Nat → TI) (own : Bool) (o : Op) (nid : Nat) (g : Bool) (rd : Nat → D) (hp : Nat → Option Blk) : Option Out :=
  match o with
  | .move x => aopF_move tab own nid g rd hp x
  | .assign x => aopF_move tab own nid g rd hp x
  | .pick c a b => aopF_pick tab own nid g rd hp c a b
  | .binOp op t x y _ => aopF_binOp tab own nid g rd hp op t x y
  | .unOp op _ x => aopF_unOp tab own nid g rd hp op x
  | .convert t' t x => aopF_convert tab own nid g rd hp t' t x
  | .alloc t => aopF_alloc tab own nid g rd hp t
  | .box _ x => aopF_box tab own nid g rd hp x
  | .build t ps => aopF_build tab own nid g rd hp t ps
  | .buildSlice t n ps => aopF_buildSlice tab own nid g rd hp t n ps
  | .load t x => aopF_load tab own nid g rd hp t x
  | .store t x y => aopF_store tab own nid g rd hp t x y
  | .nilCheck x => aopF_nilCheck tab own nid g rd hp x
  | .fieldAddr t x f => aopF_fieldAddr tab own nid g rd hp t x f
  | .field t x f => aopF_field tab own nid g rd hp t x f
  | .indexAddr t x i => aopF_indexAddr tab own nid g rd hp t x i
  | .index t x i => aopF_index tab own nid g rd hp t x i
  | .slice t x lo hi none => aopF_slice tab own nid g rd hp t x lo hi
  | .slice t x lo hi (some mx) => aopF_slice3 tab own nid g rd hp t x lo hi mx
  | .extract x i => aopF_extract tab own nid g rd hp x i
  | .makeFunc f first caps => aopF_makeFunc tab own nid g rd hp f first caps
  | .makeInterface t x => aopF_makeInterface tab own nid g rd hp t x
  | .makeSlice t l c => aopF_makeSlice tab own nid g rd hp t l c
  | .makeMap t r => aopF_makeMap tab own nid g rd hp t r
  | .lookup t x i ok => aopF_lookup tab own nid g rd hp t x i ok
  | .mapUpdate t x i y => aopF_mapUpdate tab own nid g rd hp t x i y
  | .insert t x i y => aopF_mapUpdate tab own nid g rd hp t x i y
  | .call c => aopF_call tab own nid g rd hp c
  | _ => none

theorem aopS_eq (tab : Nat → TI) (own : Bool) (o : Op) (nid : Nat) (g : Bool) (rd : Nat → D) (hp : Nat → Option Blk) : aopS tab own o nid g rd hp = aop tab own o nid g rd hp := by
  cases o with
  | slice t x lo hi mx => cases mx <;> rfl
  | _ => rfl
end Go.Tm

/- The abstract operation: what each operation of the language does to own data and own memory, as a total function. -/
import Derived.Test.YtinlknpgmelicaaTmCore
namespace Go.Tm

/-! ## The operations on data -/
def ofVal : Value → D
  | .bool b => .bool b
  | .int k n => .int k n
  | .string s => .str s.data.toList
  | .slice none 0 0 => .imm 0 [] 0
  | .pointer none => .nilptr
  | .nilFunc => .nilfn
  | .nilIface => .nilIface
  | .map none => .nilmap
  | _ => .undef

def valOk : Value → Bool
  | .int k n => decide (k.min ≤ n) && decide (n ≤ k.max)
  | .string s => decide ((s.data.toList.length : Int) ≤ 9223372036854775807)
  | _ => true

def ev (rd : Nat → D) : Operand → D
  | .tmp t => rd t
  | .const v => ofVal v
  | .func f => .fn (.func f) []
  | .global _ => .undef

/-- an operand: what it is, and under what it is that -/
def opd (g : Bool) (rd : Nat → D) (x : Operand) : D × Bool :=
  match ev rd x with
  | .when c d => (d, !g || c)
  | d => (d, true)

structure Out where
  d : D
  vc : Bool
  eff : List (Nat × Option Blk) := []
  nw : Nat × Nat := (0, 0)
  met : List Nat := []

@[irreducible] def wr (k : IntKind) (n : Int) : Int := k.wrap n
@[irreducible] def nth (l : List D) (i : Nat) : D := l.getD i .undef
/-- bit operations -/
@[irreducible] def bitw (op : BinOp) (k : IntKind) (a b : Int) : Int := bits op k a b
@[irreducible] def shw (l : Bool) (k : IntKind) (a b : Int) : Int :=
  bif l then k.wrap (a * 2 ^ (min b.toNat k.bits)) else a.fdiv (2 ^ (min b.toNat k.bits))

def arith (op : BinOp) (k : IntKind) (a b : Int) : Option (D × Bool) :=
  match op with
  | .add => some (.int k (wr k (a + b)), true)
  | .sub => some (.int k (wr k (a - b)), true)
  | .mul => some (.int k (wr k (a * b)), true)
  | .quo => some (.int k (wr k (a.tdiv b)), !decide (b = 0))
  | .rem => some (.int k (a.tmod b), !decide (b = 0))
  | .eql => some (.bool (a == b), true)
  | .neq => some (.bool (a != b), true)
  | .lss => some (.bool (decide (a < b)), true)
  | .leq => some (.bool (decide (a ≤ b)), true)
  | .gtr => some (.bool (decide (a > b)), true)
  | .geq => some (.bool (decide (a ≥ b)), true)
  | .and | .or | .xor | .andNot => some (.int k (bitw op k a b), true)
  | _ => none

def sarith (op : BinOp) (a b : List UInt8) : Option (D × Bool) :=
  match op with
  | .add => some (.str (a ++ b), decide (((a.length + b.length : Nat) : Int) ≤ 9223372036854775807))
  | .eql => some (.bool (a == b), true)
  | .neq => some (.bool !(a == b), true)
  | .lss => some (.bool (Op.bytesLess a b), true)
  | .leq => some (.bool (Op.bytesLess a b || (a == b)), true)
  | .gtr => some (.bool !(Op.bytesLess a b || (a == b)), true)
  | .geq => some (.bool !(Op.bytesLess a b), true)
  | _ => none

def bin (op : BinOp) (x y : D) : Option (D × Bool) :=
  match x, y with
  | .int k a, .int k' b => match op with
    | .shl => some (.int k (shw true k a b), decide (0 ≤ b))
    | .shr => some (.int k (shw false k a b), decide (0 ≤ b))
    | _ => bif decide (k = k') then arith op k a b else none
  | .str a, .str b => sarith op a b
  | .bool a, .bool b => match op with
    | .eql => some (.bool (a == b), true)
    | .neq => some (.bool !(a == b), true)
    | _ => none
  | .imm _ _ c, .imm _ [] 0 => match op with
    | .eql => some (.bool (c % 8 == 0), Nat.ble (c % 8) 2)
    | .neq => some (.bool !(c % 8 == 0), Nat.ble (c % 8) 2)
    | _ => none
  | .ref _ _ _ len _, .imm _ [] 0 => match op with
    | .eql => some (.bool false, Nat.blt 0 len)
    | .neq => some (.bool true, Nat.blt 0 len)
    | _ => none
  | _, _ => none

/-- the type that a comparison's operands must have, where it is asked -/
def binT (ti : TI) : D → Bool
  | .bool _ => ti.kind == 8
  | .imm _ _ _ => ti.kind == 3
  | .ref _ _ _ _ _ => ti.kind == 3
  | _ => true

def dpick (b : Bool) : D → D → Option D
  | .bool x, .bool y => some (.bool (bif b then x else y))
  | .int k x, .int k' y => bif decide (k = k') then some (.int k (bif b then x else y)) else none
  | .str x, .str y => some (.str (bif b then x else y))
  | x, y => match b with
    | true => some x
    | false => some y

/-- cells from a place on, as a value -/
def part (agg : Bool) (n : Nat) (l : List D) : Option D :=
  bif agg then some (.agg (l.take n)) else match l with
    | d :: _ => some d
    | [] => none

/-- cells put into cells -/
def splice (l : List D) (off : Nat) (new : List D) : List D := l.take off ++ new ++ l.drop (off + new.length)

def fillD (offs : List (Nat × Nat × Bool)) (cells : List D) : List (Nat × D) → Option (List D × Bool)
  | [] => some (cells, true)
  | (i, d) :: r => match offs[i]? with
    | some (o, n, _) => match fillD offs (splice cells o d.cells) r with
      | some (c, p) => some (c, Nat.beq d.cells.length n && Nat.ble (o + n) cells.length && p)
      | none => none
    | none => none

def opdsL (g : Bool) (rd : Nat → D) : List (Nat × Operand) → List (Nat × D) × Bool
  | [] => ([], true)
  | (i, x) :: r => match opd g rd x, opdsL g rd r with
    | (d, p), (ds, q) => ((i, d) :: ds, p && q)

/-- a scalar that may stand in a cell -/
def oneD : D → Bool
  | .agg _ | .tuple _ | .when _ _ | .undef => false
  | _ => true

/-- out of a zone -/
def mkZ (m : Nat) (d : D) : D := match m with
  | 0 => d
  | m + 1 => mkM (m + 1) d
def mkZL (m : Nat) (l : List D) : List D := match m with
  | 0 => l
  | m + 1 => mkML (m + 1) l

def loadD (hp : Nat → Option Blk) (agg : Bool) (n : Nat) : D → Option (D × Bool)
  | .iptr m l => match part agg n l with
    | some d => some (mkZ m d, Nat.ble n l.length && Nat.blt m 3)
    | none => none
  | .ptr id off => match hp id with
    | some (.box cs) => match part agg n (cs.drop off) with
      | some d => some (d, Nat.ble (off + n) cs.length)
      | none => none
    | _ => none
  | .eptr id s i off => match hp id with
    | some (.arr _ s' _ items) => match part agg n ((nth items i).cells.drop off) with
      | some d => some (d, Nat.beq s' s && Nat.blt i items.length && Nat.ble (off + n) (nth items i).cells.length)
      | none => none
    | _ => none
  | _ => none

/-- an element, some of whose cells are others -/
def setEl (old : D) (off : Nat) (new : List D) : D := match old with
  | .agg l => .agg (splice l off new)
  | _ => match new with
    | [d] => d
    | l => .agg l

/-- a list, one of whose elements is another -/
@[irreducible] def setN (l : List D) (i : Nat) (d : D) : List D := l.set i d

def storeD (hp : Nat → Option Blk) (n : Nat) (d : D) : D → Option (Bool × Nat × Blk)
  | .ptr id off => match hp id with
    | some (.box cs) => some (Nat.beq d.cells.length n && Nat.ble (off + n) cs.length && d.cells.all oneD, id, .box (splice cs off d.cells))
    | _ => none
  | .eptr id s i off => match hp id with
    | some (.arr e s' p items) => some (Nat.beq d.cells.length n && Nat.beq s' s && Nat.blt i items.length && Nat.ble (off + n) (nth items i).cells.length && d.cells.all oneD, id, .arr e s' (p && (D.idsL d.cells).isEmpty) (setN items i (setEl (nth items i) off d.cells)))
    | _ => none
  | _ => none

/-- a byte -/
def ub (b : UInt8) : D := .int .u8 (b.toNat : Int)

/-- the elements that are handed on: they, whether none of them refers to own memory, and under what -/
def srcD (hp : Nat → Option Blk) (esz : Nat) : D → Option (List D × Bool × Bool)
  | .imm s' l c => some (mkZL (c / 8) l, true, (Nat.beq s' esz || l.isEmpty) && Nat.blt (c / 8) 3)
  | .ref id s' off len _ => match hp id with
    | some (.arr _ s'' p items) => some ((items.drop off).take len, p, Nat.beq s' esz && Nat.beq s'' esz && Nat.ble (off + len) items.length)
    | _ => none
  | .str l => some (l.map ub, true, Nat.beq esz 1)
  | _ => none

def appendD (hp : Nat → Option Blk) (nid el esz eby : Nat) (s : D) (xs : List D) (px vx : Bool) : Option Out :=
  match s with
  | .imm _ [] c => match xs with
    | [] => some ⟨.imm esz [] c, vx, [], (0, 0), []⟩
    | _ :: _ => some ⟨.ref nid esz 0 xs.length none, vx && (Nat.ble (c % 8) 1 || Nat.beq (c % 8) 3) && decide (xs.length * eby ≤ 140737488355328), [(nid, some (.arr el esz px xs))], (nid, nid + 1), []⟩
  | .ref id s' off len oc => match hp id with
    | some (.arr e s'' p items) => match oc with
      | none => some ⟨.ref nid esz 0 (len + xs.length) none, vx && Nat.beq e el && Nat.beq s' esz && Nat.beq s'' esz && Nat.beq off 0 && Nat.beq len items.length && decide ((items.length + xs.length) * eby ≤ 140737488355328),
          [(nid, some (.arr el esz (p && px) (items ++ xs))), (id, none)], (nid, nid + 1), []⟩
      | some c => bif Nat.blt c (len + xs.length) then
            some ⟨.ref nid esz 0 (len + xs.length) none, vx && Nat.beq e el && Nat.beq s' esz && Nat.beq s'' esz && Nat.ble (off + len) items.length && decide ((len + xs.length) * eby ≤ 140737488355328),
              [(nid, some (.arr el esz (p && px) ((items.drop off).take len ++ xs)))], (nid, nid + 1), []⟩
          else match xs with
            | [] => some ⟨.ref id s' off len oc, vx, [], (0, 0), []⟩
            | _ :: _ => some ⟨.ref nid esz 0 (len + xs.length) oc, vx && Nat.beq e el && Nat.beq s' esz && Nat.beq s'' esz && Nat.beq off 0 && Nat.beq len items.length,
              [(nid, some (.arr el esz (p && px) (items ++ xs))), (id, none)], (nid, nid + 1), []⟩
    | _ => none
  | _ => none

def sliceD (len : Int) (lo hi : Option D) : Option (Int × Int × Bool) :=
  match lo, hi with
  | none, none => some (0, len, true)
  | some (.int _ a), none => some (a, len, decide (0 ≤ a) && decide (a ≤ len))
  | none, some (.int _ b) => some (0, b, decide (0 ≤ b) && decide (b ≤ len))
  | some (.int _ a), some (.int _ b) => some (a, b, decide (0 ≤ a) && decide (a ≤ b) && decide (b ≤ len))
  | _, _ => none

/-- what is left of a known capacity -/
def capS : Option Nat → Nat → Option Nat
  | some c, a => some (c - a)
  | none, _ => none

/-- may a slice reach beyond its length? -/
def roomV (hp : Nat → Option Blk) (id s off : Nat) (oc : Option Nat) (lo hi : Option D) : Bool :=
  match oc with
  | some c => match sliceD c lo hi with | some (_, _, v) => v | none => false
  | none => match hp id with
    | some (.arr _ s' _ items) => Nat.beq s' s && !(Nat.beq s 0) && Nat.ble off items.length && (match sliceD ((items.length - off : Nat) : Int) lo hi with | some (_, _, v) => v | none => false)
    | _ => false

/-- is a slice's capacity surely more than zero? -/
def roomNZ (hp : Nat → Option Blk) : D → Bool
  | .ref id s off _ none => match hp id with
    | some (.arr _ s' _ items) => Nat.beq s' s && !(Nat.beq s 0) && Nat.blt off items.length
    | _ => false
  | .ref _ _ _ _ (some c) => Nat.blt 0 c
  | _ => false

/-- an append inside an array whose end is known to lie further on -/
def appendIn (hp : Nat → Option Blk) (esz : Nat) (s : D) (xs : List D) (px vx : Bool) : Option Out :=
  match s with
  | .ref id s' off len none => match hp id with
    | some (.arr e s'' p items) => bif Nat.beq off 0 && Nat.beq len items.length then none else
        some ⟨.ref id s' off (len + xs.length) none, vx && Nat.beq s' esz && Nat.beq s'' esz && Nat.ble (off + len + xs.length) items.length,
          [(id, some (.arr e s'' (p && px) (items.take (off + len) ++ xs ++ items.drop (off + len + xs.length))))], (0, 0), []⟩
    | _ => none
  | _ => none

/-- an element of zeros -/
def zeroEl (ti : TI) : D := bif ti.eagg then .agg ti.ezero else match ti.ezero with
  | d :: _ => d
  | [] => .undef

/-- zeros appended, where there is no room -/
def appendZ (hp : Nat → Option Blk) (nid : Nat) (ti : TI) (s x : D) : Option Out :=
  match s, x with
  | .ref id s' off len (some c), .int _ m => match hp id with
    | some (.arr e s'' p items) => some ⟨.ref nid ti.esz 0 (len + m.toNat) none, Nat.beq e ti.el && Nat.beq s' ti.esz && Nat.beq s'' ti.esz && Nat.ble (off + len) items.length && decide (0 < m) && Nat.blt c (len + m.toNat) && decide ((len + m.toNat) * ti.eby ≤ 140737488355328),
        [(nid, some (.arr ti.el ti.esz p ((items.drop off).take len ++ List.replicate m.toNat (zeroEl ti))))], (nid, nid + 1), []⟩
    | _ => none
  | .imm _ [] c, .int _ m => some ⟨.ref nid ti.esz 0 m.toNat none, (Nat.ble (c % 8) 1 || Nat.beq (c % 8) 3) && decide (0 < m) && decide (m.toNat * ti.eby ≤ 140737488355328), [(nid, some (.arr ti.el ti.esz true (List.replicate m.toNat (zeroEl ti))))], (nid, nid + 1), []⟩
  | _, _ => none

def opdO (g : Bool) (rd : Nat → D) : Option Operand → Option D × Bool
  | none => (none, true)
  | some x => match opd g rd x with
    | (d, p) => (some d, p)

def opds (g : Bool) (rd : Nat → D) : List Operand → List D × Bool
  | [] => ([], true)
  | x :: r => match opd g rd x, opds g rd r with
    | (d, p), (ds, q) => (d :: ds, p && q)

/-- are the places 0, 1, .. up to n? -/
def idxOk : Nat → Nat → List (Nat × Operand) → Bool
  | k, n, [] => Nat.beq k n
  | k, n, (i, _) :: r => Nat.beq i k && idxOk (k + 1) n r

/-- bytes, as a text -/
def bytesD : List D → Option (List UInt8)
  | [] => some []
  | .int .u8 n :: r => match bytesD r with
    | some l => some (UInt8.ofNat n.toNat :: l)
    | none => none
  | _ => none

/-- are keys the same? -/
def keyEq : D → D → Option Bool
  | .int k a, .int k' b => bif decide (k = k') then some (a == b) else none
  | .str a, .str b => some (a == b)
  | _, _ => none

def findD (k : D) : List (D × D) → Option (Option D)
  | [] => some none
  | (x, y) :: r => match keyEq k x with
    | some true => some (some y)
    | some false => findD k r
    | none => none

def updD (k v : D) : List (D × D) → Option (List (D × D))
  | [] => some [(k, v)]
  | (x, y) :: r => match keyEq k x with
    | some true => some ((k, v) :: r)
    | some false => match updD k v r with
      | some l => some ((x, y) :: l)
      | none => none
    | none => none

/-- may it be a map's key? -/
def keyD (ti : TI) : D → Bool
  | .int _ _ => ti.kind == 6
  | .str _ => ti.kind == 5
  | _ => false


/-- the bounds of a slice expression with three -/
def slice3D (cap : Int) (lo hi mx : Option D) : Option (Int × Int × Int × Bool) :=
  match hi, mx with
  | some (.int _ b), some (.int _ m) => match lo with
    | none => some (0, b, m, decide (0 ≤ b) && decide (b ≤ m) && decide (m ≤ cap))
    | some (.int _ a) => some (a, b, m, decide (0 ≤ a) && decide (a ≤ b) && decide (b ≤ m) && decide (m ≤ cap))
    | _ => none
  | _, _ => none

def aop (tab : Nat → TI) (own : Bool) (o : Op) (nid : Nat) (g : Bool) (rd : Nat → D) (hp : Nat → Option Blk) : Option Out :=
  match o with
  | .move x | .assign x => match opd g rd x with
    | (d, p) => some { d, vc := p }
  | .pick c a b => match opd g rd c with
    | (.bool b0, p) => match opd (g && b0) rd a, opd (g && !b0) rd b with
      | (da, pa), (db, pb) => match dpick b0 da db with
        | some d => some { d, vc := p && pa && pb }
        | none => none
    | _ => none
  | .binOp op t x y _ => match opd g rd x, opd g rd y with
    | (.agg l, px), (.agg l', py) => match aggEq (tab t).zero l l', op with
      | some r, .eql => some { d := .bool r, vc := px && py && (tab t).eqs }
      | some r, .neq => some { d := .bool !r, vc := px && py && (tab t).eqs }
      | _, _ => none
    | (dx, px), (dy, py) => match bin op dx dy with
      | some (d, p) => some { d, vc := px && py && (p || roomNZ hp dx) && binT (tab t) dx }
      | none => none
  | .unOp op _ x => match opd g rd x with
    | (.bool b, p) => match op with
      | .not => some { d := .bool !b, vc := p }
      | _ => none
    | (.int k n, p) => match op with
      | .neg => some { d := .int k (wr k (0 - n)), vc := p }
      | _ => none
    | _ => none
  | .convert t' t x => match opd g rd x with
    | (.int _ n, p) => match (tab t).ik with
      | some k => some { d := .int k (wr k n), vc := p && (tab t).kind == 6 && !((tab t').kind == 0) }
      | none => none
    | (.str l, p) => bif (tab t).kind == 5 then some { d := .str l, vc := p && !((tab t').kind == 0) }
      else some { d := .imm 1 (l.map ub) 10, vc := p && !((tab t').kind == 0) && (tab t).kind == 3 && (tab (tab t).el).ik == some .u8 && (tab (tab t).el).kind == 6 }
    | (d, p) => match srcD hp 1 d with
      | some (xs, _, q) => match bytesD xs with
        | some l => some { d := .str l, vc := p && q && (tab t).kind == 5 && (tab t').kind == 3 && (tab (tab t').el).ik == some .u8 && (tab (tab t').el).kind == 6 }
        | none => none
      | none => none
  | .alloc t => some { d := .ptr nid 0, vc := !((tab t).kind == 0), eff := [(nid, some (.box (tab t).zero))], nw := (nid, nid + 1) }
  | .box _ x => match opd g rd x with
    | (d, p) => some { d := .ptr nid 0, vc := p && d.cells.all oneD && !d.cells.isEmpty, eff := [(nid, some (.box d.cells))], nw := (nid, nid + 1) }
  | .build t ps => match opdsL g rd ps.toList with
    | (ds, p) => match fillD (tab t).offs (tab t).zero ds with
      | some (c, q) => some { d := .agg c, vc := p && q && (tab t).kind == 2 }
      | none => none
  | .buildSlice t n ps => match opds g rd (ps.toList.map (·.2)) with
    | (ds, p) => bif own && !ds.isEmpty then some { d := .ref nid (tab t).esz 0 ds.length (some ds.length), vc := p && (tab t).kind == 3 && idxOk 0 n ps.toList && decide (n * (tab t).esz ≤ 16777216) && (ds.all fun d => Nat.beq d.cells.length (tab t).esz && d.cells.all oneD), eff := [(nid, some (.arr (tab t).el (tab t).esz (D.idsL ds).isEmpty ds))], nw := (nid, nid + 1) }
      else some { d := .imm (tab t).esz (unfL ds) (bif okML new1 ds then 9 else 1), vc := p && (tab t).kind == 3 && idxOk 0 n ps.toList && decide (n * (tab t).esz ≤ 16777216) && (D.idsL ds).isEmpty && (ds.all fun d => Nat.beq d.cells.length (tab t).esz && d.cells.all oneD) && okML low3 ds }
  | .load t x => match opd g rd x with
    | (d, p) => match loadD hp ((tab t).kind == 2) (tab t).size d with
      | some (r, q) => some { d := r, vc := p && q && !((tab t).kind == 0) }
      | none => none
  | .store t x y => match opd g rd x, opd g rd y with
    | (dx, p), (dy, q) => match storeD hp (tab t).size dy dx with
      | some (r, id, blk) => some { d := .undef, vc := p && q && r && !((tab t).kind == 0) && !((tab t).size == 0), eff := [(id, some blk)] }
      | none => none
  | .nilCheck x => match opd g rd x with
    | (.ptr id off, p) => some { d := .ptr id off, vc := p }
    | (.eptr id s i off, p) => some { d := .eptr id s i off, vc := p }
    | (.iptr m l, p) => some { d := .iptr m l, vc := p }
    | _ => none
  | .fieldAddr t x f => match opd g rd x, (tab t).offs[f]? with
    | (.ptr id off, p), some (o, _, _) => some { d := .ptr id (off + o), vc := p && (tab t).kind == 2 }
    | (.eptr id s i off, p), some (o, _, _) => some { d := .eptr id s i (off + o), vc := p && (tab t).kind == 2 }
    | (.iptr m l, p), some (o, _, _) => some { d := .iptr m (l.drop o), vc := p && Nat.ble o l.length && (tab t).kind == 2 }
    | _, _ => none
  | .field t x f => match opd g rd x, (tab t).offs[f]? with
    | (.agg l, p), some (o, n, agg) => match part agg n (l.drop o) with
      | some d => some { d, vc := p && Nat.ble (o + n) l.length && (tab t).kind == 2 }
      | none => none
    | _, _ => none
  | .indexAddr t x i => match opd g rd x, opd g rd i with
    | (.imm s l c, p), (.int _ n, q) => some { d := .iptr (c / 8) (nth l n.toNat).cells, vc := p && q && decide (0 ≤ n) && decide (n < l.length) && Nat.beq s (tab t).esz && (tab t).kind == 3 && Nat.blt (c / 8) 3 }
    | (.ref id s off len _, p), (.int _ n, q) => some { d := .eptr id s (off + n.toNat) 0, vc := p && q && decide (0 ≤ n) && decide (n < len) && Nat.beq s (tab t).esz && (tab t).kind == 3 }
    | _, _ => none
  | .index t x i => match opd g rd x, opd g rd i with
    | (.str l, p), (.int _ n, q) => some { d := .int .u8 ((l.getD n.toNat 0).toNat : Int), vc := p && q && decide (0 ≤ n) && decide (n < l.length) && (tab t).kind == 5 }
    | _, _ => none
  | .slice t x lo hi none => match opd g rd x, opdO g rd lo, opdO g rd hi with
    | (.imm s l c, p), (lo, q), (hi, r) => match sliceD l.length lo hi with
      | some (a, b, v) => some { d := .imm (tab t).esz ((l.take b.toNat).drop a.toNat) (bif c % 8 == 0 then c else c - c % 8 + 4), vc := p && q && r && v && (Nat.beq s (tab t).esz || l.isEmpty) && (tab t).kind == 3 }
      | none => none
    | (.ref id s off len oc, p), (lo, q), (hi, r) => match sliceD len lo hi with
      | some (a, b, v) => some { d := .ref id s (off + a.toNat) (b - a).toNat (capS oc a.toNat), vc := p && q && r && (v || (hi.isSome && roomV hp id s off oc lo hi)) && Nat.beq s (tab t).esz && (tab t).kind == 3 }
      | none => none
    | (.str l, p), (lo, q), (hi, r) => match sliceD l.length lo hi with
      | some (a, b, v) => some { d := .str ((l.take b.toNat).drop a.toNat), vc := p && q && r && v && (tab t).kind == 5 }
      | none => none
    | _, _, _ => none
  | .slice t x lo hi (some mx) => match opd g rd x, opdO g rd lo, opdO g rd hi, opd g rd mx with
    | (.imm s l c, p), (lo, q), (hi, r), (mx, u) => match slice3D l.length lo hi (some mx) with
      | some (a, b, m, v) => some { d := .imm (tab t).esz ((l.take b.toNat).drop a.toNat) (bif c % 8 == 0 then c else bif m == b then (bif (c % 8 == 1 || c % 8 == 2) then c - c % 8 + 1 else c - c % 8 + 3) else c - c % 8 + 4), vc := p && q && r && u && v && (Nat.beq s (tab t).esz || l.isEmpty) && (tab t).kind == 3 }
      | none => none
    | (.ref id s off len oc, p), (lo, q), (hi, r), (mx, u) => match slice3D (match oc with | some c => c | none => len) lo hi (some mx) with
      | some (a, b, m, v) => some { d := bif decide (a = m) && (Nat.blt 0 len || roomNZ hp (.ref id s off len oc)) then .imm (tab t).esz [] 1 else .ref id s (off + a.toNat) (b - a).toNat (some (m - a).toNat), vc := p && q && r && u && v && Nat.beq s (tab t).esz && (tab t).kind == 3 }
      | none => none
    | _, _, _, _ => none
  | .extract x i => match opd g rd x with
    | (.tuple l, p) => match l[i]? with
      | some d => some { d, vc := p }
      | none => none
    | _ => none
  | .makeFunc f first caps => match first.toList, opds g rd caps.toList with
    | [], (ds, p) => some { d := .fn f ds, vc := p }
    | _, _ => none
  | .makeInterface t x => match opd g rd x with
    | (d, p) => some { d := .iface t d, vc := p && !((tab t).kind == 0) && !((tab t).kind == 7) }
  | .makeSlice t l c => match opd g rd l, opd g rd c with
    | (.int _ n, p), (.int _ m, q) => some { d := .ref nid (tab t).esz 0 n.toNat (some m.toNat), vc := p && q && decide (0 ≤ n) && decide (n ≤ m) && decide (m * (tab t).eby ≤ 140737488355328) && decide (m ≤ 9223372036854775807) && (tab t).kind == 3 && Nat.beq (tab t).ezero.length (tab t).esz && ((tab t).eagg || Nat.beq (tab t).esz 1), eff := [(nid, some (.arr (tab t).el (tab t).esz true (List.replicate n.toNat (zeroEl (tab t)))))], nw := (nid, nid + 1) }
    | _, _ => none
  | .makeMap t r => match opdO g rd r with
    | (none, p) => some { d := .mref nid, vc := p, eff := [(nid, some (.map []))], nw := (nid, nid + 1) }
    | (some (.int _ _), p) => some { d := .mref nid, vc := p && (tab t).kind == 9, eff := [(nid, some (.map []))], nw := (nid, nid + 1) }
    | _ => none
  | .lookup t x i ok => match opd g rd x, opd g rd i with
    | (.mref id, p), (k, q) => match hp id with
      | some (.map es) => match findD k es with
        | some r => some { d := bif ok then .tuple [r.getD (zeroEl (tab t)), .bool r.isSome] else r.getD (zeroEl (tab t)), vc := p && q && (tab t).kind == 9 && keyD (tab (tab t).el) k }
        | none => none
      | _ => none
    | (.nilmap, p), (k, q) => some { d := bif ok then .tuple [zeroEl (tab t), .bool false] else zeroEl (tab t), vc := p && q && (tab t).kind == 9 && keyD (tab (tab t).el) k }
    | _, _ => none
  | .mapUpdate t x i y | .insert t x i y => match opd g rd x, opd g rd i, opd g rd y with
    | (.mref id, p), (k, q), (v, r) => match hp id with
      | some (.map es) => match updD k v es with
        | some es' => some { d := .undef, vc := p && q && r && (tab t).kind == 9 && keyD (tab (tab t).el) k, eff := [(id, some (.map es'))] }
        | none => none
      | _ => none
    | _, _, _ => none
  | .call c => match c.callee, c.args.toList, c.argTypes.toList with
    | .builtin .len, [x], [t] => match opd g rd x with
      | (.imm _ l _, p) => some { d := .int .i64 l.length, vc := p && (tab t).kind == 3 }
      | (.ref _ _ _ len _, p) => some { d := .int .i64 len, vc := p && (tab t).kind == 3 }
      | (.str l, p) => some { d := .int .i64 l.length, vc := p && (tab t).kind == 5 }
      | _ => none
    | .builtin .cap, [x], [t] => match opd g rd x with
      | (.imm _ l c, p) => some { d := .int .i64 l.length, vc := p && (tab t).kind == 3 && (Nat.ble (c % 8) 1 || Nat.beq (c % 8) 3) }
      | (.ref _ _ _ _ (some c), p) => some { d := .int .i64 c, vc := p && (tab t).kind == 3 }
      | _ => none
    | .builtin .append, [s, x], [t, t'] => match opd g rd s, opd g rd x with
      | (ds, p), (dx, q) => match srcD hp (tab t).esz dx with
        | some (xs, px, vx) => match appendIn hp (tab t).esz ds xs px vx with
          | some out => some { out with vc := p && q && out.vc && (tab t).kind == 3 && ((tab t').kind == 3 || (tab t').kind == 5) }
          | none => match appendD hp nid (tab t).el (tab t).esz (tab t).eby ds xs px vx with
            | some out => some { out with vc := p && q && out.vc && (tab t).kind == 3 && ((tab t').kind == 3 || (tab t').kind == 5) }
            | none => none
        | none => match appendZ hp nid (tab t) ds dx with
          | some out => some { out with vc := p && q && out.vc && (tab t).kind == 3 && (tab t').kind == 6 }
          | none => none
    | .builtin .copy, [s, x], [t, _] => match opd g rd s, opd g rd x with
      | (.ref id s' off len _, p), (.ref id2 s2' off2 len2 _, q) => match hp id, hp id2 with
        | some (.arr e s'' pu items), some (.arr _ s2 px items2) => some { d := .int .i64 (Nat.min len2 len), vc := p && q && Nat.beq s' (tab t).esz && Nat.beq s'' (tab t).esz && Nat.beq s2' (tab t).esz && Nat.beq s2 (tab t).esz && Nat.ble off items.length && Nat.ble (off2 + Nat.min len2 len) items2.length && (tab t).kind == 3, eff := [(id, some (.arr e s'' (pu && px) (items.take off ++ (items2.drop off2).take (Nat.min len2 len) ++ items.drop (off + Nat.min len2 len))))] }
        | _, _ => none
      | (.ref id s' off len _, p), (dx, q) => match hp id, srcD hp (tab t).esz dx with
        | some (.arr e s'' pu items), some (xs, px, vx) => some { d := .int .i64 (Nat.min xs.length len), vc := p && q && vx && Nat.beq s' (tab t).esz && Nat.beq s'' (tab t).esz && Nat.ble (off + len) items.length && (tab t).kind == 3, eff := [(id, some (.arr e s'' (pu && px) (items.take off ++ xs.take len ++ items.drop (off + Nat.min xs.length len))))] }
        | _, _ => none
      | _, _ => none
    | .builtin .clear, [x], [t] => match opd g rd x with
      | (.imm _ [] _, p) => some { d := .tuple [], vc := p && (tab t).kind == 3 }
      | (.ref id s off len _, p) => match hp id with
        | some (.arr e s' pu items) => some { d := .tuple [], vc := p && (tab t).kind == 3 && Nat.beq s (tab t).esz && Nat.beq s' s && Nat.ble (off + len) items.length && Nat.beq (tab t).ezero.length (tab t).esz && ((tab t).eagg || Nat.beq (tab t).esz 1), eff := [(id, some (.arr e s' pu (items.take off ++ List.replicate len (zeroEl (tab t)) ++ items.drop (off + len))))] }
        | _ => none
      | _ => none
    | .builtin .max, [x, y], _ => match opd g rd x, opd g rd y with
      | (.int k a, p), (.int k' b, q) => bif decide (k = k') then some { d := .int k (max a b), vc := p && q } else none
      | _, _ => none
    | .builtin .min, [x, y], _ => match opd g rd x, opd g rd y with
      | (.int k a, p), (.int k' b, q) => bif decide (k = k') then some { d := .int k (min a b), vc := p && q } else none
      | _, _ => none
    | _, _, _ => none
  | _ => none

end Go.Tm

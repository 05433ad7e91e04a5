/- Texts of the proof. -/
import Derived.Scope
import Derived.KernelRfl
import Derived.Test.YtbedjbhndfbpcaaGreatSeatOnePh
import Derived.Test.YtbedjbhndfbpcaaGreatSeatOnePk
set_option linter.unusedVariables false
set_option linter.unusedSimpArgs false
namespace Go.Tm
set_option linter.unusedVariables false
def zy3(tab:Nat->TI)(own:Bool)(nid:Nat)(g:Bool)(rd:Nat->D)(hp:Nat->Option Blk)(x:Operand):Option Out:=
 match opd g rd x with
  |(d,p)=>some {d,vc:=p}
def ya4y(tab:Nat->TI)(own:Bool)(nid:Nat)(g:Bool)(rd:Nat->D)(hp:Nat->Option Blk)(c:Operand)(a:Operand)(b:Operand):Option Out:=
 match opd g rd c with
  |(.bool b0,p)=>match opd (g&&b0) rd a,opd (g&&!b0) rd b with
   |(da,pa),(db,pb)=>match zua b0 da db with
    |some d=>some {d,vc:=p&&pa&&pb}
    |none=>none
  | _=>none
def ya28(tab:Nat->TI)(own:Bool)(nid:Nat)(g:Bool)(rd:Nat->D)(hp:Nat->Option Blk)(op:BinOp)(t:TypeId)(x:Operand)(y:Operand):Option Out:=
 match opd g rd x,opd g rd y with
  |(.agg l,px),(.agg l',py)=>match zgc (tab t).zero l l',op with
   |some r,.eql=>some {d:=.bool r,vc:=px&&py&&(tab t).eqs}
   |some r,.neq=>some {d:=.bool !r,vc:=px&&py&&(tab t).eqs}
   | _,_=>none
  |(dx,px),(dy,py)=>match bin op dx dy with
   |some (d,p)=>some {d,vc:=px&&py&&(p||zjr hp dx)&&binT (tab t) (cstO x y) dx}
   |none=>none
def ya4x(tab:Nat->TI)(own:Bool)(nid:Nat)(g:Bool)(rd:Nat->D)(hp:Nat->Option Blk)(op:UnOp)(x:Operand):Option Out:=
 match opd g rd x with
  |(.bool b,p)=>match op with
   |.not=>some {d:=.bool !b,vc:=p}
   | _=>none
  |(.int k n,p)=>match op with
   |.neg=>some {d:=.int k (wr k (0-n)),vc:=p}
   | _=>none
  | _=>none
def zy6(tab:Nat->TI)(own:Bool)(nid:Nat)(g:Bool)(rd:Nat->D)(hp:Nat->Option Blk)(t':TypeId)(t:TypeId)(x:Operand):Option Out:=
 match opd g rd x with
  |(.int _ n,p)=>match(tab t).ik with
   |some k=>some {d:=.int k (wr k n),vc:=p&&(tab t).kind==6&&!((tab t').kind==0)}
   |none=>none
  |(.str l,p)=>bif (tab t).kind==5 then some {d:=.str l,vc:=p&&!((tab t').kind==0)}
   else some {d:=.imm 1 (l.map ub) 10,vc:=p&&!((tab t').kind==0)&&(tab t).kind==3&&(tab (tab t).el).ik==some .u8&&(tab (tab t).el).kind==6}
  |(d,p)=>match srcD hp 1 d with
   |some (xs,_,q)=>match zmu xs with
    |some l=>some {d:=.str l,vc:=p&&q&&(tab t).kind==5&&(tab t').kind==3&&(tab (tab t').el).ik==some .u8&&(tab (tab t').el).kind==6}
    |none=>none
   |none=>none
def ya2d(tab:Nat->TI)(own:Bool)(nid:Nat)(g:Bool)(rd:Nat->D)(hp:Nat->Option Blk)(t:TypeId):Option Out:=
 some {d:=.ptr nid 0,vc:=!((tab t).kind==0),eff:=[(nid,some (.box (tab t).zero))],nw:=(nid,nid+1)}
def ya66(tab:Nat->TI)(own:Bool)(nid:Nat)(g:Bool)(rd:Nat->D)(hp:Nat->Option Blk)(x:Operand):Option Out:=
 match opd g rd x with
  |(d,p)=>some {d:=.ptr nid 0,vc:=p&&d.cells.all oneD&&!d.cells.isEmpty,eff:=[(nid,some (.box d.cells))],nw:=(nid,nid+1)}
def ya27(tab:Nat->TI)(own:Bool)(nid:Nat)(g:Bool)(rd:Nat->D)(hp:Nat->Option Blk)(t:TypeId)(ps:Array (Nat×Operand)):Option Out:=
 match zo5 g rd ps.toList with
  |(ds,p)=>match zqp (tab t).offs (tab t).zero ds with
   |some (c,q)=>some {d:=.agg c,vc:=p&&q&&((tab t).kind==2||(tab t).kind==4)}
   |none=>none
def zu3(tab:Nat->TI)(own:Bool)(nid:Nat)(g:Bool)(rd:Nat->D)(hp:Nat->Option Blk)(t:TypeId)(n:Nat)(ps:Array (Nat×Operand)):Option Out:=
 match opds g rd (ps.toList.map (·.2)) with
  |(ds,p)=>bif own&&!ds.isEmpty then some {d:=.ref nid (tab t).esz 0 ds.length (some ds.length),vc:=p&&(tab t).kind==3&&zo8 0 n ps.toList&&decide (n*(tab t).esz<=16777216)&&(ds.all fun d=>Nat.beq d.cells.length (tab t).esz&&d.cells.all oneD),eff:=[(nid,some (.arr (tab t).el (tab t).esz (D.idsL ds).isEmpty ds))],nw:=(nid,nid+1)}
   else some {d:=.imm (tab t).esz (unfL ds) (bif okML new1 ds then 9 else 1),vc:=p&&(tab t).kind==3&&zo8 0 n ps.toList&&decide (n*(tab t).esz<=16777216)&&(D.idsL ds).isEmpty&&(ds.all fun d=>Nat.beq d.cells.length (tab t).esz&&d.cells.all oneD)&&okML low3 ds}
def ya4z(tab:Nat->TI)(own:Bool)(nid:Nat)(g:Bool)(rd:Nat->D)(hp:Nat->Option Blk)(t:TypeId)(x:Operand):Option Out:=
 match opd g rd x with
  |(d,p)=>match zql hp ((tab t).kind==2) (tab t).size d with
   |some (r,q)=>some {d:=r,vc:=p&&q&&(!((tab t).kind==0)&&!((tab t).kind==4))}
   |none=>none
def ya23(tab:Nat->TI)(own:Bool)(nid:Nat)(g:Bool)(rd:Nat->D)(hp:Nat->Option Blk)(t:TypeId)(x:Operand)(y:Operand):Option Out:=
 match opd g rd x,opd g rd y with
  |(dx,p),(dy,q)=>match zn4 hp (tab t).size dy dx with
   |some (r,id,blk)=>some {d:=.undef,vc:=p&&q&&r&&!((tab t).kind==0)&&!((tab t).size==0),eff:=[(id,some blk)]}
   |none=>none
def zwf(tab:Nat->TI)(own:Bool)(nid:Nat)(g:Bool)(rd:Nat->D)(hp:Nat->Option Blk)(x:Operand):Option Out:=
 match opd g rd x with
  |(.ptr id off,p)=>some {d:=.ptr id off,vc:=p}
  |(.eptr id s i off,p)=>some {d:=.eptr id s i off,vc:=p}
  |(.iptr m l,p)=>some {d:=.iptr m l,vc:=p}
  | _=>none
def zuh(tab:Nat->TI)(own:Bool)(nid:Nat)(g:Bool)(rd:Nat->D)(hp:Nat->Option Blk)(t:TypeId)(x:Operand)(f:Nat):Option Out:=
 match opd g rd x,(tab t).offs[f]? with
  |(.ptr id off,p),some (o,_,_)=>some {d:=.ptr id (off+o),vc:=p&&(tab t).kind==2}
  |(.eptr id s i off,p),some (o,_,_)=>some {d:=.eptr id s i (off+o),vc:=p&&(tab t).kind==2}
  |(.iptr m l,p),some (o,_,_)=>some {d:=.iptr m (l.drop o),vc:=p&&Nat.ble o l.length&&(tab t).kind==2}
  | _,_=>none
def ya26(tab:Nat->TI)(own:Bool)(nid:Nat)(g:Bool)(rd:Nat->D)(hp:Nat->Option Blk)(t:TypeId)(x:Operand)(f:Nat):Option Out:=
 match opd g rd x,(tab t).offs[f]? with
  |(.agg l,p),some (o,n,agg)=>match part agg n (l.drop o) with
   |some d=>some {d,vc:=p&&Nat.ble (o+n) l.length&&(tab t).kind==2}
   |none=>none
  | _,_=>none
def zug(tab:Nat->TI)(own:Bool)(nid:Nat)(g:Bool)(rd:Nat->D)(hp:Nat->Option Blk)(t:TypeId)(x:Operand)(i:Operand):Option Out:=
 match opd g rd x,opd g rd i with
  |(.imm s l c,p),(.int _ n,q)=>some {d:=.iptr (c/8) (nth l n.toNat).cells,vc:=p&&q&&decide (0<=n)&&decide (n<l.length)&&Nat.beq s (tab t).esz&&(tab t).kind==3&&Nat.blt (c/8) 3}
  |(.ref id s off len _,p),(.int _ n,q)=>some {d:=.eptr id s (off+n.toNat) 0,vc:=p&&q&&decide (0<=n)&&decide (n<len)&&Nat.beq s (tab t).esz&&(tab t).kind==3}
  |(.ptr id off,p),(.int _ n,q)=>some {d:=.ptr id (off+n.toNat),vc:=p&&q&&decide (0<=n)&&decide (n<(tab t).size)&&(tab t).kind==4}
  | _,_=>none
def ya25(tab:Nat->TI)(own:Bool)(nid:Nat)(g:Bool)(rd:Nat->D)(hp:Nat->Option Blk)(t:TypeId)(x:Operand)(i:Operand):Option Out:=
 match opd g rd x,opd g rd i with
  |(.str l,p),(.int _ n,q)=>some {d:=.int .u8 ((l.getD n.toNat 0).toNat:Int),vc:=p&&q&&decide (0<=n)&&decide (n<l.length)&&(tab t).kind==5}
  | _,_=>none
def ya24(tab:Nat->TI)(own:Bool)(nid:Nat)(g:Bool)(rd:Nat->D)(hp:Nat->Option Blk)(t:TypeId)(x:Operand)(lo:Option Operand)(hi:Option Operand):Option Out:=
 match opd g rd x,opdO g rd lo,opdO g rd hi with
  |(.imm s l c,p),(lo,q),(hi,r)=>match zgn l.length lo hi with
   |some (a,b,v)=>some {d:=.imm (tab t).esz ((l.take b.toNat).drop a.toNat) (bif c%8==0 then c else c-c%8+4),vc:=p&&q&&r&&v&&(Nat.beq s (tab t).esz||l.isEmpty)&&(tab t).kind==3}
   |none=>none
  |(.ref id s off len oc,p),(lo,q),(hi,r)=>match zgn len lo hi with
   |some (a,b,v)=>some {d:=.ref id s (off+a.toNat) (b-a).toNat (capS oc a.toNat),vc:=p&&q&&r&&(v||(hi.isSome&&zu8 hp id s off oc lo hi))&&Nat.beq s (tab t).esz&&(tab t).kind==3}
   |none=>none
  |(.str l,p),(lo,q),(hi,r)=>match zgn l.length lo hi with
   |some (a,b,v)=>some {d:=.str ((l.take b.toNat).drop a.toNat),vc:=p&&q&&r&&v&&(tab t).kind==5}
   |none=>none
  | _,_,_=>none
def zzk(tab:Nat->TI)(own:Bool)(nid:Nat)(g:Bool)(rd:Nat->D)(hp:Nat->Option Blk)(t:TypeId)(x:Operand)(lo:Option Operand)(hi:Option Operand)(mx:Operand):Option Out:=
 match opd g rd x,opdO g rd lo,opdO g rd hi,opd g rd mx with
  |(.imm s l c,p),(lo,q),(hi,r),(mx,u)=>match zld l.length lo hi (some mx) with
   |some (a,b,m,v)=>some {d:=.imm (tab t).esz ((l.take b.toNat).drop a.toNat) (bif c%8==0 then c else bif m==b then(bif (c%8==1||c%8==2) then c-c%8+1 else c-c%8+3) else c-c%8+4),vc:=p&&q&&r&&u&&v&&(Nat.beq s (tab t).esz||l.isEmpty)&&(tab t).kind==3}
   |none=>none
  |(.ref id s off len oc,p),(lo,q),(hi,r),(mx,u)=>match zld (match oc with|some c=>bif capK c then c else len|none=>len) lo hi (some mx) with
   |some (a,b,m,v)=>some {d:=bif decide (a=m)&&(Nat.blt 0 len||zjr hp (.ref id s off len oc)) then .imm (tab t).esz [] 1 else .ref id s (off+a.toNat) (b-a).toNat (some (m-a).toNat),vc:=p&&q&&r&&u&&v&&Nat.beq s (tab t).esz&&(tab t).kind==3}
   |none=>none
  | _,_,_,_=>none
def zy5(tab:Nat->TI)(own:Bool)(nid:Nat)(g:Bool)(rd:Nat->D)(hp:Nat->Option Blk)(x:Operand)(i:Nat):Option Out:=
 match opd g rd x with
  |(.tuple l,p)=>match l[i]? with
   |some d=>some {d,vc:=p}
   |none=>none
  | _=>none
def zwg(tab:Nat->TI)(own:Bool)(nid:Nat)(g:Bool)(rd:Nat->D)(hp:Nat->Option Blk)(f:Fn)(first:Array Operand)(caps:Array Operand):Option Out:=
 match f,first.toList,opds g rd caps.toList with
  |.func k,[],(ds,p)=>some {d:=.fn (.func k) ds,vc:=p}
  |.func k,[x],([],p)=>match opd g rd x with
   |(d,q)=>some {d:=.fn (.yield k) [d],vc:=p&&q}
  | _,_,_=>none
def zq3(tab:Nat->TI)(own:Bool)(nid:Nat)(g:Bool)(rd:Nat->D)(hp:Nat->Option Blk)(t:TypeId)(x:Operand):Option Out:=
 match opd g rd x with
  |(d,p)=>some {d:=.iface t d,vc:=p&&!((tab t).kind==0)&&!((tab t).kind==7)}
def zuf(tab:Nat->TI)(own:Bool)(nid:Nat)(g:Bool)(rd:Nat->D)(hp:Nat->Option Blk)(t:TypeId)(l:Operand)(c:Operand):Option Out:=
 match opd g rd l,opd g rd c with
  |(.int _ n,p),(.int _ m,q)=>some {d:=.ref nid (tab t).esz 0 n.toNat (some m.toNat),vc:=p&&q&&decide (0<=n)&&decide (n<=m)&&decide (m*(tab t).eby<=140737488355328)&&decide (m<=9223372036854775807)&&(tab t).kind==3&&Nat.beq (tab t).ezero.length (tab t).esz&&((tab t).eagg||Nat.beq (tab t).esz 1),eff:=[(nid,some (.arr (tab t).el (tab t).esz true (List.replicate n.toNat (zdi (tab t)))))],nw:=(nid,nid+1)}
  | _,_=>none
def zy4(tab:Nat->TI)(own:Bool)(nid:Nat)(g:Bool)(rd:Nat->D)(hp:Nat->Option Blk)(t:TypeId)(r:Option Operand):Option Out:=
 match opdO g rd r with
  |(none,p)=>some {d:=.mref nid,vc:=p,eff:=[(nid,some (.map []))],nw:=(nid,nid+1)}
  |(some (.int _ _),p)=>some {d:=.mref nid,vc:=p&&(tab t).kind==9,eff:=[(nid,some (.map []))],nw:=(nid,nid+1)}
  | _=>none
def zzl(tab:Nat->TI)(own:Bool)(nid:Nat)(g:Bool)(rd:Nat->D)(hp:Nat->Option Blk)(t:TypeId)(x:Operand)(i:Operand)(ok:Bool):Option Out:=
 match opd g rd x,opd g rd i with
  |(.mref id,p),(k,q)=>match hp id with
   |some (.map es)=>match ztb k es with
    |some r=>some {d:=bif ok then .tuple [r.getD (zdi (tab t)),.bool r.isSome] else r.getD (zdi (tab t)),vc:=p&&q&&(tab t).kind==9&&keyD (tab (tab t).el) k}
    |none=>none
   | _=>none
  |(.nilmap,p),(k,q)=>some {d:=bif ok then .tuple [zdi (tab t),.bool false] else zdi (tab t),vc:=p&&q&&(tab t).kind==9&&keyD (tab (tab t).el) k}
  | _,_=>none
def zol(tab:Nat->TI)(own:Bool)(nid:Nat)(g:Bool)(rd:Nat->D)(hp:Nat->Option Blk)(t:TypeId)(x:Operand)(i:Operand)(y:Operand):Option Out:=
 match opd g rd x,opd g rd i,opd g rd y with
  |(.mref id,p),(k,q),(v,r)=>match hp id with
   |some (.map es)=>match updD k v es with
    |some es'=>some {d:=.undef,vc:=p&&q&&r&&(tab t).kind==9&&keyD (tab (tab t).el) k,eff:=[(id,some (.map es'))]}
    |none=>none
   | _=>none
  | _,_,_=>none
def ya2b(tab:Nat->TI)(own:Bool)(nid:Nat)(g:Bool)(rd:Nat->D)(hp:Nat->Option Blk)(x:Operand)(t:TypeId):Option Out:=
 match opd g rd x with
   |(.imm _ l _,p)=>some {d:=.int .i64 l.length,vc:=p&&(tab t).kind==3}
   |(.ref _ _ _ len _,p)=>some {d:=.int .i64 len,vc:=p&&(tab t).kind==3}
   |(.str l,p)=>some {d:=.int .i64 l.length,vc:=p&&(tab t).kind==5}
   | _=>none
def ya2c(tab:Nat->TI)(own:Bool)(nid:Nat)(g:Bool)(rd:Nat->D)(hp:Nat->Option Blk)(x:Operand)(t:TypeId):Option Out:=
 match opd g rd x with
   |(.imm _ l c,p)=>some {d:=.int .i64 l.length,vc:=p&&(tab t).kind==3&&(Nat.ble (c%8) 1||Nat.beq (c%8) 3)}
   |(.ref _ _ _ _ (some c),p)=>some {d:=.int .i64 c,vc:=p&&(tab t).kind==3&&capK c}
   | _=>none
def zwi(tab:Nat->TI)(own:Bool)(nid:Nat)(g:Bool)(rd:Nat->D)(hp:Nat->Option Blk)(s:Operand)(x:Operand)(t:TypeId)(t':TypeId):Option Out:=
 match opd g rd s,opd g rd x with
   |(ds,p),(dx,q)=>match srcD hp (tab t).esz dx with
    |some (xs,px,vx)=>match zho hp (tab t).esz ds xs px vx with
     |some out=>some {out with vc:=p&&q&&out.vc&&(tab t).kind==3&&((tab t').kind==3||(tab t').kind==5)}
     |none=>match zat hp nid (tab t).el (tab t).esz (tab t).eby ds xs px vx with
      |some out=>some {out with vc:=p&&q&&out.vc&&(tab t).kind==3&&((tab t').kind==3||(tab t').kind==5)}
      |none=>none
    |none=>match zia hp nid (tab t) ds dx with
     |some out=>some {out with vc:=p&&q&&out.vc&&(tab t).kind==3&&(tab t').kind==6}
     |none=>none
def zzm(tab:Nat->TI)(own:Bool)(nid:Nat)(g:Bool)(rd:Nat->D)(hp:Nat->Option Blk)(s:Operand)(x:Operand)(t:TypeId):Option Out:=
 match opd g rd s,opd g rd x with
   |(.ref id s' off len _,p),(.ref id2 s2' off2 len2 _,q)=>match hp id,hp id2 with
    |some (.arr e s'' pu items),some (.arr _ s2 px items2)=>some {d:=.int .i64 (Nat.min len2 len),vc:=p&&q&&Nat.beq s' (tab t).esz&&Nat.beq s'' (tab t).esz&&Nat.beq s2' (tab t).esz&&Nat.beq s2 (tab t).esz&&Nat.ble off items.length&&Nat.ble (off2+Nat.min len2 len) items2.length&&(tab t).kind==3,eff:=[(id,some (.arr e s'' (pu&&px) (items.take off++(items2.drop off2).take (Nat.min len2 len)++items.drop (off+Nat.min len2 len))))]}
    | _,_=>none
   |(.ref id s' off len _,p),(dx,q)=>match hp id,srcD hp (tab t).esz dx with
    |some (.arr e s'' pu items),some (xs,px,vx)=>some {d:=.int .i64 (Nat.min xs.length len),vc:=p&&q&&vx&&Nat.beq s' (tab t).esz&&Nat.beq s'' (tab t).esz&&Nat.ble (off+len) items.length&&(tab t).kind==3,eff:=[(id,some (.arr e s'' (pu&&px) (items.take off++xs.take len++items.drop (off+Nat.min xs.length len))))]}
    | _,_=>none
   | _,_=>none
def zy7(tab:Nat->TI)(own:Bool)(nid:Nat)(g:Bool)(rd:Nat->D)(hp:Nat->Option Blk)(x:Operand)(t:TypeId):Option Out:=
 match opd g rd x with
   |(.imm _ [] _,p)=>some {d:=.tuple [],vc:=p&&(tab t).kind==3}
   |(.ref id s off len _,p)=>match hp id with
    |some (.arr e s' pu items)=>some {d:=.tuple [],vc:=p&&(tab t).kind==3&&Nat.beq s (tab t).esz&&Nat.beq s' s&&Nat.ble (off+len) items.length&&Nat.beq (tab t).ezero.length (tab t).esz&&((tab t).eagg||Nat.beq (tab t).esz 1),eff:=[(id,some (.arr e s' pu (items.take off++List.replicate len (zdi (tab t))++items.drop (off+len))))]}
    | _=>none
   | _=>none
def ya2a(tab:Nat->TI)(own:Bool)(nid:Nat)(g:Bool)(rd:Nat->D)(hp:Nat->Option Blk)(x:Operand)(y:Operand):Option Out:=
 match opd g rd x,opd g rd y with
   |(.int k a,p),(.int k' b,q)=>bif decide (k=k') then some {d:=.int k (max a b),vc:=p&&q} else none
   | _,_=>none
def ya29(tab:Nat->TI)(own:Bool)(nid:Nat)(g:Bool)(rd:Nat->D)(hp:Nat->Option Blk)(x:Operand)(y:Operand):Option Out:=
 match opd g rd x,opd g rd y with
   |(.int k a,p),(.int k' b,q)=>bif decide (k=k') then some {d:=.int k (min a b),vc:=p&&q} else none
   | _,_=>none
def zwh(tab:Nat->TI)(own:Bool)(nid:Nat)(g:Bool)(rd:Nat->D)(hp:Nat->Option Blk)(x:Operand)(i:Operand)(t:TypeId):Option Out:=
 match opd g rd x,opd g rd i with
   |(.mref id,p),(k,q)=>match hp id with
    |some (.map es)=>match delD k es with
     |some es'=>some {d:=.tuple [],vc:=p&&q&&(tab t).kind==9&&keyD (tab (tab t).el) k,eff:=[(id,some (.map es'))]}
     |none=>none
    | _=>none
   | _,_=>none
def ya50(tab:Nat->TI)(own:Bool)(nid:Nat)(g:Bool)(rd:Nat->D)(hp:Nat->Option Blk)(c:Call):Option Out:=
 match c.callee,c.args.toList,c.argTypes.toList with
 |.builtin .len,[x],[t]=>ya2b tab own nid g rd hp x t
 |.builtin .cap,[x],[t]=>ya2c tab own nid g rd hp x t
 |.builtin .append,[s,x],[t,t']=>zwi tab own nid g rd hp s x t t'
 |.builtin .copy,[s,x],[t,_]=>zzm tab own nid g rd hp s x t
 |.builtin .clear,[x],[t]=>zy7 tab own nid g rd hp x t
 |.builtin .max,[x,y],_=>ya2a tab own nid g rd hp x y
 |.builtin .min,[x,y],_=>ya29 tab own nid g rd hp x y
 |.builtin .delete,[x,i],[t,_]=>zwh tab own nid g rd hp x i t
 | _,_,_=>none
def aopS(tab:Nat->TI)(own:Bool)(o:Op)(nid:Nat)(g:Bool)(rd:Nat->D)(hp:Nat->Option Blk):Option Out:=
 match o with
 |.move x=>zy3 tab own nid g rd hp x
 |.assign x=>zy3 tab own nid g rd hp x
 |.pick c a b=>ya4y tab own nid g rd hp c a b
 |.binOp op t x y _=>ya28 tab own nid g rd hp op t x y
 |.unOp op _ x=>ya4x tab own nid g rd hp op x
 |.convert t' t x=>zy6 tab own nid g rd hp t' t x
 |.alloc t=>ya2d tab own nid g rd hp t
 |.box _ x=>ya66 tab own nid g rd hp x
 |.build t ps=>ya27 tab own nid g rd hp t ps
 |.buildSlice t n ps=>zu3 tab own nid g rd hp t n ps
 |.load t x=>ya4z tab own nid g rd hp t x
 |.store t x y=>ya23 tab own nid g rd hp t x y
 |.nilCheck x=>zwf tab own nid g rd hp x
 |.fieldAddr t x f=>zuh tab own nid g rd hp t x f
 |.field t x f=>ya26 tab own nid g rd hp t x f
 |.indexAddr t x i=>zug tab own nid g rd hp t x i
 |.index t x i=>ya25 tab own nid g rd hp t x i
 |.slice t x lo hi none=>ya24 tab own nid g rd hp t x lo hi
 |.slice t x lo hi (some mx)=>zzk tab own nid g rd hp t x lo hi mx
 |.extract x i=>zy5 tab own nid g rd hp x i
 |.makeFunc f first caps=>zwg tab own nid g rd hp f first caps
 |.makeInterface t x=>zq3 tab own nid g rd hp t x
 |.makeSlice t l c=>zuf tab own nid g rd hp t l c
 |.makeMap t r=>zy4 tab own nid g rd hp t r
 |.lookup t x i ok=>zzl tab own nid g rd hp t x i ok
 |.mapUpdate t x i y=>zol tab own nid g rd hp t x i y
 |.insert t x i y=>zol tab own nid g rd hp t x i y
 |.call c=>ya50 tab own nid g rd hp c
 | _=>none
theorem ya4w(tab:Nat->TI)(own:Bool)(o:Op)(nid:Nat)(g:Bool)(rd:Nat->D)(hp:Nat->Option Blk):aopS tab own o nid g rd hp=aop tab own o nid g rd hp:=by
 cases o with
 |slice t x lo hi mx=>cases mx<;>rfl
 | _=>rfl
end Go.Tm
namespace Go.Tm
open Go.RowKit Go.WideShapes
inductive Ex where
 |normal
 |exit (id:Nat)
 |ret
def Ex.to:Ex->Exit
 |.normal=>.normal
 |.exit i=>.exit i
 |.ret=>.ret
def hasN(l:List Nat)(i:Nat):Bool:=l.any (Nat.beq i)
def addW(base:Nat)(ws:List Nat):List (Nat×Option Blk)->List Nat
 |[]=>ws
 |(i,_)::r=>bif Nat.blt i base&&!hasN ws i then addW base (i::ws) r else addW base ws r
def yaag(call:FuncId->List D->List (Nat×Blk)->Nat->Option Out)(c:Call)(f:Operand)(st:St):Option Out:=
 match opd true (getR st.vars) f with
 |(.fn (.func K) caps,true)=>match opds true (getR st.vars) c.args.toList with
  |(ds,true)=>call K (ds++caps) st.heap st.nx
  | _=>none
 |(.fn (.yield K) pre,true)=>match opds true (getR st.vars) c.args.toList with
  |(ds,true)=>call K (pre++ds) st.heap st.nx
  | _=>none
 | _=>none
def aopX(tab:Nat->TI)(o:Oper)(st:St):Option Out:=
 match aopS tab true o.op st.nx true (getR st.vars) (getL st.heap) with
 |some out=>bif out.vc&&nwB st.nx out.nw then some out else none
 |none=>none
def ya20(call:FuncId->List D->List (Nat×Blk)->Nat->Option Out)(tab:Nat->TI)(o:Oper)(st:St):Option Out:=
 match o.op with
 |.call c=>match c.callee with
  |.value f=>yaag call c f st
  | _=>aopX tab o st
 | _=>aopX tab o st
def ya17(call:FuncId->List D->List (Nat×Blk)->Nat->Option Out)(tab:Nat->TI)(ops:List Oper)(o:Oper)(st:St):Option Out:=
 match o.guard with
 |none=>ya20 call tab o st
 |some (j,want)=>match zqr ops j with
  |none=>none
  |some t=>match gval want (getR st.vars t) with
   |some true=>match ya20 call tab o st with
    |some out=>some {out with d:=.when true out.d}
    |none=>none
   |some false=>some {d:=.when false .undef,vc:=true}
   |none=>none
def zwx(call:FuncId->List D->List (Nat×Blk)->Nat->Option Out)(tab:Nat->TI)(base:Nat)(dr:Bool)(ops:List Oper):List Oper->St->List Nat->List FP->Option (St×List Nat×List FP)
 |[],st,ws,fps=>some (st,ws,fps)
 |o::l,st,ws,fps=>match ya17 call tab ops o st with
  |some out=>zwx call tab base dr ops l (st.app o.dst out) (addW base ws out.eff) (bif dr then fps++[fpOf o ⟨getR st.vars,getL st.heap,fun _=>true⟩ out] else fps)
  |none=>none
def ya2w(pairs:List (Nat×Nat))(fps:List FP):Bool:=pairs.all fun x=>okFP ((fps[x.1]?).getD zl7) ((fps[x.2]?).getD zl7)
def ya7x(ops:Array Oper)(pairs:List (Nat×Nat)):Bool:=
 (List.range ops.size).all fun i=>(List.range i).all fun j=>anc ops ops.size i j||pairs.any fun x=>Nat.beq x.1 j&&Nat.beq x.2 i
def zrf(n:Nat)(pt:Nat->List (Nat×Nat)):Code->Bool
 |.skip=>true
 |.region id ops draw=>zjl n ops draw&&(!draw||ya7x ops (pt id))
 |.seq a b=>zrf n pt a&&zrf n pt b
 |.cond c a b=>zd0 c&&zrf n pt a&&zrf n pt b
 |.block _ b=>zrf n pt b
 |.loop b=>zrf n pt b
 |.exit _=>true
 |.ret=>true
 |.label _=>true
 |.scope b=>zrf n pt b
 | _=>false
theorem zze{ops:Array Oper}{pairs:List (Nat×Nat)}{fps:List FP}(h:ya7x ops pairs=true)(hs:ya2w pairs fps=true):zl5 ops (fun i=>(fps[i]?).getD zl7)=true:=by
 unfold zl5
 refine List.all_eq_true.2 fun i hi=>List.all_eq_true.2 fun j hj=>?_
 have:=List.all_eq_true.1 (List.all_eq_true.1 h i hi) j hj
 simp only[zau] at this ⊢
 rcases this with h1|h1
 exact .inr h1
 left
 obtain⟨x,hx,hb⟩:=List.any_eq_true.1 h1
 simp only[za0] at hb
 have:=List.all_eq_true.1 hs x hx
 rwa [nb hb.1,nb hb.2] at this
theorem zru{l:List Nat}{i:Nat}:hasN l i=true↔i∈l:=by
 unfold hasN
 rw[List.any_eq_true]
 constructor
 rintro⟨x,hx,hb⟩;rw[nb hb];exact hx
 intro h;exact⟨i,h,Nat.beq_refl i⟩
theorem zq4(base:Nat):∀(eff:List (Nat×Option Blk)) (ws:List Nat) (i:Nat),i<base->i∉addW base ws eff->i∉ws/\i∉eff.map (·.1)
 |[],ws,i,_,h=>⟨h,by simp⟩
 |(j,b)::r,ws,i,hi,h=>by
  simp only[addW] at h
  cases hc:(Nat.blt j base&&!hasN ws j)
  rw[hc] at h
  obtain⟨h1,h2⟩:=zq4 base r ws i hi h
  refine⟨h1,?_⟩
  simp only[zai,List.mem_cons,not_or]
  refine⟨?_,h2⟩
  rintro rfl
  simp only[Bool.and_eq_false_iff,Bool.not_eq_false'] at hc
  rcases hc with hc|hc
  have:Nat.blt i base=true:=zap hi
  rw[hc] at this;cases this
  exact h1 (zru.1 hc)
  rw[hc] at h
  obtain⟨h1,h2⟩:=zq4 base r (j::ws) i hi h
  simp only[List.mem_cons,not_or] at h1
  exact⟨h1.2,by simp only[zai,List.mem_cons,not_or];exact⟨h1.1,h2⟩⟩
def zkx(P:Program)(call:FuncId->List D->List (Nat×Blk)->Nat->Option Out):Prop:=
 ∀K args heap nx out,call K args heap nx=some out->∃H,zbv P K args H out.d out.eff out.nw/\(∀id b,getL H id=some b->getL heap id=some b)/\(∀x∈out.eff,x.1∈H.map (·.1)\/out.nw.1<=x.1/\x.1<out.nw.2)/\out.met=H.map (·.1)/\out.vc=true/\out.nw.1=nx/\nx<=out.nw.2
section
variable {P : Program} {tab : Nat -> TI} {call : FuncId -> List D -> List (Nat × Blk) -> Nat -> Option Out}
theorem ya83{st:St}{dst:Option Nat}{out:Out}(h1:out.nw.1=st.nx)(h2:st.nx<=out.nw.2):(st.app dst out).nx=out.nw.2:=by
 unfold St.app
 cases hb:Nat.blt out.nw.1 out.nw.2
 have:¬out.nw.1<out.nw.2:=by
  intro h
  have:Nat.blt out.nw.1 out.nw.2=true:=zap h
  rw[hb] at this;cases this
 simp only[cond_false]
 omega
 simp only[cond_true]
theorem ztm(hc:zkx P call){o:Oper}{st:St}{out:Out}(h:ya20 call tab o st=some out):
  (out.nw=(0,0)\/out.nw.1=st.nx/\st.nx<=out.nw.2)/\out.vc=true/\∀lim,out.nw.2<=lim->Core P tab true o (st.fs lim) out:=by
 have plain:aopX tab o st=some out->(out.nw=(0,0)\/out.nw.1=st.nx/\st.nx<=out.nw.2)/\out.vc=true/\∀lim,out.nw.2<=lim->∃nid,aop tab true o.op nid true (st.fs lim).rd (st.fs lim).hp=some out/\out.vc=true/\(out.nw=(nid,nid+1)->(st.fs lim).nu nid=true):=by
  intro h
  unfold aopX at h
  split at h
  rename_i out' ha
  rw[ya4w] at ha
  cases hb:(out'.vc&&nwB st.nx out'.nw)
  rw[hb] at h;cases h
  rw[hb] at h
  cases h
  simp only[za0] at hb
  refine⟨?_,hb.1,fun lim hlim=>⟨st.nx,ha,hb.1,fun e=>?_⟩⟩
  rcases ya0a hb.2 with e|e
  exact .inl e
  right;rw[e];exact⟨rfl,Nat.le_succ _⟩
  rw[e] at hlim
  simp only[St.fs,za0,decide_eq_true_eq]
  have hlim:st.nx+1<=lim:=hlim
  omega
  cases h
 unfold ya20 at h
 unfold Core
 split at h
 rename_i c ho
 simp only[ho]
 split at h
 rename_i f hcal
 simp only[hcal]
 unfold yaag at h
 split at h
 rename_i K caps hopd
 split at h
 rename_i ds hopds
 obtain⟨H,g1,g2,g3,g4,g5,g6,g7⟩:=hc _ _ _ _ _ h
 refine⟨.inr ⟨g6,g7⟩,g5,fun lim hlim=>?_⟩
 refine .inl ⟨K,caps,true,ds,true,out.d,hopd,rfl,hopds,rfl,.inr (.inl ⟨H,out.eff,out.nw,g1,g2,fun id k1 k2=>?_,g3,?_⟩)⟩
 simp only[St.fs,za0,decide_eq_true_eq]
 omega
 cases out;simp only at g4 g5;rw[g4,g5]
 cases h
 rename_i K pre hopd
 split at h
 rename_i ds hopds
 obtain⟨H,g1,g2,g3,g4,g5,g6,g7⟩:=hc _ _ _ _ _ h
 refine⟨.inr ⟨g6,g7⟩,g5,fun lim hlim=>?_⟩
 refine .inr ⟨K,pre,ds,out.d,H,out.eff,out.nw,hopd,hopds,g1,g2,fun id k1 k2=>?_,g3,?_⟩
 simp only[St.fs,za0,decide_eq_true_eq]
 omega
 cases out;simp only at g4 g5;rw[g4,g5]
 cases h
 cases h
 rename_i hno
 have:=plain h
 rw[ho] at this
 refine⟨this.1,this.2.1,fun lim hlim=>?_⟩
 split
 rename_i f hcal;exact absurd hcal (hno f)
 exact this.2.2 lim hlim
 rename_i hno
 have:=plain h
 refine⟨this.1,this.2.1,fun lim hlim=>?_⟩
 split
 rename_i c hop;exact absurd hop (hno c)
 exact this.2.2 lim hlim
theorem zs4(hc:zkx P call){ops:Array Oper}{o:Oper}{st:St}{out:Out}(h:ya17 call tab ops.toList o st=some out):
  st.nx<=(st.app o.dst out).nx/\∀lim,(st.app o.dst out).nx<=lim->zm4 P tab true ops o (st.fs lim) out/\∀id,out.nw.1<=id->id<out.nw.2->st.nx<=id:=by
 have hn:∀(out:Out),(out.nw=(0,0)\/out.nw.1=st.nx/\st.nx<=out.nw.2)->st.nx<=(st.app o.dst out).nx/\out.nw.2<=(st.app o.dst out).nx/\∀id,out.nw.1<=id->id<out.nw.2->st.nx<=id:=by
  intro out h
  rcases h with h|⟨h1,h2⟩
  refine⟨ya4t (.inl h),by rw[h];exact Nat.zero_le _,fun id k1 k2=>?_⟩
  rw[h] at k2
  exact absurd k2 (Nat.not_lt_zero _)
  rw[ya83 h1 h2]
  exact⟨h2,za4 _,fun id k1 _=>by omega⟩
 unfold ya17 at h
 unfold zm4
 split at h
 rename_i hg
 simp only[hg]
 obtain⟨g1,g2,g3⟩:=ztm hc h
 obtain⟨k1,k2,k3⟩:=hn out g1
 exact⟨k1,fun lim hlim=>⟨g3 lim (zao k2 hlim),k3⟩⟩
 rename_i j want hg
 simp only[hg]
 split at h
 cases h
 rename_i t ht
 have ht':zo9 ops j=some t:=by
  rw[zo0] at ht
  simpa[zo9] using ht
 split at h
 rename_i hgv
 split at h
 rename_i out' ho'
 cases h
 obtain⟨g1,g2,g3⟩:=ztm hc ho'
 obtain⟨k1,k2,k3⟩:=hn {out' with d:=.when true out'.d} g1
 refine⟨k1,fun lim hlim=>⟨⟨t,true,out',ht',hgv,fun _=>g3 lim (zao k2 hlim),?_⟩,k3⟩⟩
 cases out'
 simp only at g2
 simp only[cond_true,g2]
 cases h
 rename_i hgv
 cases h
 refine⟨za4 _,fun lim hlim=>⟨⟨t,false,{d:=.undef,vc:=true},ht',hgv,(fun h=>by cases h),rfl⟩,fun id k1 k2=>?_⟩⟩
 exact absurd k2 (Nat.not_lt_zero _)
 cases h
theorem zr8(hc:zkx P call){base:Nat}{dr:Bool}{ops:Array Oper}:∀(l:List Oper) (st st':St) (ws ws':List Nat) (fps fps':List FP),zwx call tab base dr ops.toList l st ws fps=some (st',ws',fps')->
  st.nx<=st'.nx/\(∀id,id<base->id∉ws'->id∉ws/\getL st'.heap id=getL st.heap id)/\∀lim,st'.nx<=lim->∃os,Chain P tab true lim ops l st os st'/\(dr=true->fps'=fps++os.map (·.2))
 |[],st,st',ws,ws',fps,fps',h=>by
  simp only[zwx,za5,zaa] at h
  obtain⟨rfl,rfl,rfl⟩:=h
  exact⟨za4 _,fun id _ h=>⟨h,rfl⟩,fun lim _=>⟨[],.nil _,fun _=>by simp⟩⟩
 |o::l,st,st',ws,ws',fps,fps',h=>by
  simp only[zwx] at h
  split at h
  rename_i out hs
  obtain⟨h1,h2⟩:=zs4 hc hs
  obtain⟨h3,h4,h5⟩:=zr8 hc l _ _ _ _ _ _ h
  refine⟨zao h1 h3,fun id hid hw=>?_,fun lim hlim=>?_⟩
  obtain⟨k1,k2⟩:=h4 id hid hw
  obtain⟨k3,k4⟩:=zq4 base _ _ id hid k1
  refine⟨k3,?_⟩
  rw[k2]
  simp only[St.app,zpo]
  exact ztf k4
  obtain⟨os,k1,k2⟩:=h5 lim hlim
  obtain⟨f1,f2⟩:=h2 lim (zao h3 hlim)
  refine⟨(out,fpOf o (st.fs lim) out)::os,.cons f1 f2 k1,fun hd=>?_⟩
  subst hd
  rw[k2 rfl]
  simp[zz7 o st lim]
  cases h
def FtOk(P:Program)(ft:Nat->Option Func)(pt:Nat->Nat->List (Nat×Nat)):Prop:=
 ∀K fn,ft K=some fn->P.funcs[K]?=some fn/\fn.name≠ "runtime.NumGoroutine"/\∀c,fn.body=some c->zrf fn.ntmps (pt K) c=true
end
theorem zdb{α:Type}(f:α->D)(l:List α)(i:Nat)(h:i<l.length):nth (l.map f) i=f l[i]:=by
 unfold nth;simp[h]
theorem ztw(a b:Nat):Nat.blt a b=decide (a<b):=by
 show Nat.ble (a+1) b=_
 rw[Bool.eq_iff_iff];simp[Nat.ble_eq];omega
theorem ztz(a b:Nat):Nat.ble a b=decide (a<=b):=by
 rw[Bool.eq_iff_iff];simp[Nat.ble_eq]
theorem zpj(d:D):mkZ 0 d=d:=rfl
theorem zne(l:List D):mkZL 0 l=l:=rfl
def zk8(r:Option (St×Bool×List FP×List Oper))(st':St)(vc:Bool)(acc:List FP)(l:List Oper):Prop:=
 ∀q:St->Bool->List FP->List Oper->Prop,q st' vc acc l->match r with|some (s,v,f,l)=>q s v f l|none=>False
theorem zk8.eq{r:Option (St×Bool×List FP×List Oper)}{st':St}{vc:Bool}{acc:List FP}{l:List Oper}(h:zk8 r st' vc acc l):r=some (st',vc,acc,l):=by
 have:=h (fun s v f k=>(s,v,f,k)=(st',vc,acc,l)) rfl
 cases r with
 |none=>exact this.elim
 |some x=>exact congrArg some this
section
variable {P : Program} {tab : Nat -> TI} {lim n : Nat}
theorem Ok.plain{id:Nat}{ops:Array Oper}{st st':St}{vc:Bool}{acc:List FP}{Q:Exit->St->Prop}(hT:zhz P tab)(hm:P.follows .mixedOrders=true)(V:List Nat)(hok:zjl n ops false=true)
  (h:zk8 (runE tab true false ops.toList ops.toList ⟨keep V st.vars,st.heap,st.nx⟩ true []) st' vc acc []) (hv:vc=true) (hlim:st'.nx<=lim) (hQ:Q .normal st'):Ok P lim n (.region id ops false) st Q:=
 Ok.region (own:=true) hT hm V hok (WRun.E h.eq (.inr fun _ _ _ h=>⟨nofun,h.2⟩) hv hlim (.nil ⟨nofun,hQ⟩)).2
theorem Ok.drawn{id:Nat}{ops:Array Oper}{st st':St}{vc:Bool}{acc:List FP}{Q:Exit->St->Prop}(hT:zhz P tab)(hm:P.follows .mixedOrders=true)(V:List Nat)(hok:zjl n ops true=true)
  (h:zk8 (runE tab true true ops.toList ops.toList ⟨keep V st.vars,st.heap,st.nx⟩ true []) st' vc acc []) (hs:zl5 ops (fun i=>(acc[i]?).getD zl7)=true) (hv:vc=true) (hlim:st'.nx<=lim) (hQ:Q .normal st'):Ok P lim n (.region id ops true) st Q:=
 Ok.region (own:=true) hT hm V hok (WRun.E h.eq (.inl rfl) hv hlim (.nil ⟨fun _=>hs,hQ⟩)).2
theorem Ok.reg{id:Nat}{ops:Array Oper}{draw:Bool}{st:St}{Q:Exit->St->Prop}(hT:zhz P tab)(hm:P.follows .mixedOrders=true)(V:List Nat)(hok:zjl n ops draw=true)(h:RegA P tab true lim ops draw ⟨keep V st.vars,st.heap,st.nx⟩ (Q .normal)):Ok P lim n (.region id ops draw) st Q:=Ok.region hT hm V hok h
theorem WRun.R{ops:Array Oper}{dr:Bool}{l l':List Oper}{st st':St}{acc acc':List FP}{Q:St->List FP->Prop}{vc:Bool}
  (hdr:dr=true\/∀st a b,Q st a->Q st b) (h:zk8 (runE tab true dr ops.toList l st true acc) st' vc acc' l') (hv:vc=true) (hlim:st'.nx<=lim) (hQ:WRun P tab true lim ops l' st' acc' Q):WRun P tab true lim ops l st acc Q:=
 (WRun.E h.eq hdr hv hlim hQ).2
theorem zx2{st:St}:∀id,((0:Nat),(0:Nat)).1<=id->id<((0:Nat),(0:Nat)).2->st.nx<=id:=fun _ _ h=>absurd h (Nat.not_lt_zero _)
def runK(tab:Nat->TI)(own dr:Bool)(ops:List Oper):Nat->List Oper->St->Bool->List FP->Option (St×Bool×List FP×List Oper)
 |0,l,st,vc,fps=>some (st,vc,fps,l)
 | _+1,[],st,vc,fps=>some (st,vc,fps,[])
 |n+1,o::l,st,vc,fps=>
  bif ziy o then some (st,vc,fps,o::l) else
  match zrj tab own ops o st with
  |some (out,v)=>runK tab own dr ops n l (st.app o.dst out) (vc&&v) (bif dr then fps++[fpOf o ⟨getR st.vars,getL st.heap,fun _=>true⟩ out] else fps)
  |none=>none
theorem WRun.EN{ops:Array Oper}{dr:Bool}(k:Nat){l l':List Oper}{st st':St}{acc acc':List FP}{Q:St->List FP->Prop}{vc:Bool}
  (h:runK tab true dr ops.toList k l st true acc=some (st',vc,acc',l')) (hdr:dr=true\/∀st a b,Q st a->Q st b) (hv:vc=true) (hlim:st'.nx<=lim) (hQ:WRun P tab true lim ops l' st' acc' Q):WRun P tab true lim ops l st acc Q:=by
 have key:∀(k:Nat) (l:List Oper) (st:St) (v0:Bool) (acc:List FP),runK tab true dr ops.toList k l st v0 acc=some (st',vc,acc',l')->v0=true/\st.nx<=st'.nx/\WRun P tab true lim ops l st acc Q:=by
  intro k
  induction k with
  |zero=>
   intro l st v0 acc h
   simp only[runK,za5,zaa] at h
   obtain⟨rfl,rfl,rfl,rfl⟩:=h
   exact⟨hv,za4 _,hQ⟩
  |succ k ih=>
   intro l st v0 acc h
   cases l with
   |nil=>
    simp only[runK,za5,zaa] at h
    obtain⟨rfl,rfl,rfl,rfl⟩:=h
    exact⟨hv,za4 _,hQ⟩
   |cons o l=>
    simp only[runK] at h
    cases hc:ziy o with
    |true=>
     rw[hc] at h
     simp only[cond_true,za5,zaa] at h
     obtain⟨rfl,rfl,rfl,rfl⟩:=h
     exact⟨hv,za4 _,hQ⟩
    |false=>
     rw[hc] at h
     simp only[cond_false] at h
     split at h
     rename_i out v hs
     obtain⟨hvv,hnx,os,st2,hch,hq⟩:=ih _ _ _ _ h
     simp only[za0] at hvv
     obtain⟨f1,f2⟩:=zs5 (P:=P) (lim:=lim) hc hs hvv.2 (zao hnx hlim)
     refine⟨hvv.1,zao (ya4t (zva hs hvv.2)) hnx,(out,fpOf o (st.fs lim) out)::os,st2,.cons f1 f2 hch,?_⟩
     rcases hdr with hd|hd
     subst hd
     simp only[cond_true,zz7 o st lim] at hq
     simpa using hq
     exact hd _ _ _ hq
     cases h
 exact(key k l st true acc h).2.2
theorem WRun.RN{ops:Array Oper}{dr:Bool}(k:Nat){l l':List Oper}{st st':St}{acc acc':List FP}{Q:St->List FP->Prop}{vc:Bool}
  (hdr:dr=true\/∀st a b,Q st a->Q st b) (h:zk8 (runK tab true dr ops.toList k l st true acc) st' vc acc' l') (hv:vc=true) (hlim:st'.nx<=lim) (hQ:WRun P tab true lim ops l' st' acc' Q):WRun P tab true lim ops l st acc Q:=
 WRun.EN k h.eq hdr hv hlim hQ
theorem WRun.call{ops:Array Oper}{o:Oper}{l:List Oper}{st:St}{acc:List FP}{Q:St->List FP->Prop}{c:Call}{f:Operand}{K:FuncId}{caps ds args:List D}{r:D}
  (ho:o.op=.call c) (hc:c.callee=.value f) (hg:o.guard=none) (hf:opd true (getR st.vars) f=(.fn (.func K) caps,true)) (hds:opds true (getR st.vars) c.args.toList=(ds,true)) (hl:zei (getL st.heap) (ds++caps)=(args,true))
  (hK:zbi P K args r) (hQ:WRun P tab true lim ops l (st.app o.dst {d:=r,vc:=true}) (acc++[fpOf o (st.fs lim) {d:=r,vc:=true}]) Q):WRun P tab true lim ops (o::l) st acc Q:=by
 obtain⟨os,st',hch,hq⟩:=hQ
 refine⟨_,st',.cons (out:={d:=r,vc:=true}) ?_ zx2 hch,by simpa using hq⟩
 unfold zm4
 simp only[hg]
 unfold Core
 simp only[ho,hc]
 have hl':zei (st.fs lim).hp (ds++caps)=(args,true):=hl
 exact .inl ⟨K,caps,true,ds,true,r,hf,rfl,hds,rfl,.inl ⟨by rw[hl'],by rw[hl'];exact hK,rfl⟩⟩
theorem WRun.gcall{ops:Array Oper}{o:Oper}{l:List Oper}{st:St}{acc:List FP}{Q:St->List FP->Prop}{c:Call}{f:Operand}{K:FuncId}{r:D}{j t:Nat}{want g:Bool}
  (ho:o.op=.call c) (hc:c.callee=.value f) (hg:o.guard=some (j,want)) (hj:zqr ops.toList j=some t) (hgv:gval want (getR st.vars t)=some g)
  (h:g=true->∃caps ds args,opd true (getR st.vars) f=(.fn (.func K) caps,true)/\opds true (getR st.vars) c.args.toList=(ds,true)/\zei (getL st.heap) (ds++caps)=(args,true)/\zbi P K args r)
  (hQ:WRun P tab true lim ops l (st.app o.dst {d:=.when g r,vc:=true}) (acc++[fpOf o (st.fs lim) {d:=.when g r,vc:=true}]) Q):WRun P tab true lim ops (o::l) st acc Q:=by
 obtain⟨os,st',hch,hq⟩:=hQ
 refine⟨_,st',.cons (out:={d:=.when g r,vc:=true}) ?_ zx2 hch,by simpa using hq⟩
 unfold zm4
 simp only[hg]
 refine⟨t,g,{d:=r,vc:=true},?_,hgv,fun hgt=>?_,?_⟩
 rw[zo0] at hj
 simpa[zo9] using hj
 obtain⟨caps,ds,args,h1,h3,h5,h7⟩:=h hgt
 unfold Core
 simp only[ho,hc]
 have hl':zei (st.fs lim).hp (ds++caps)=(args,true):=h5
 exact .inl ⟨K,caps,true,ds,true,r,h1,rfl,h3,rfl,.inl ⟨by rw[hl'],by rw[hl'];exact h7,rfl⟩⟩
 cases g<;>rfl
theorem WRun.hcall{ops:Array Oper}{o:Oper}{l:List Oper}{st:St}{acc:List FP}{Q:St->List FP->Prop}{c:Call}{f:Operand}{K:FuncId}{caps ds:List D}{H:List (Nat×Blk)}{r:D}{eff:List (Nat×Option Blk)}{nw:Nat×Nat}
  (ho:o.op=.call c) (hc:c.callee=.value f) (hg:o.guard=none) (hf:opd true (getR st.vars) f=(.fn (.func K) caps,true)) (hds:opds true (getR st.vars) c.args.toList=(ds,true))
  (hK:zbv P K (ds++caps) H r eff nw) (hH:∀id b,getL H id=some b->getL st.heap id=some b) (hE:∀x∈eff,x.1∈H.map (·.1)\/nw.1<=x.1/\x.1<nw.2) (hn:nw.1=nw.2\/st.nx<=nw.1/\nw.2<=lim)
  (hQ:WRun P tab true lim ops l (st.app o.dst {d:=r,vc:=true,eff:=eff,nw:=nw,met:=H.map (·.1)}) (acc++[fpOf o (st.fs lim) {d:=r,vc:=true,eff:=eff,nw:=nw,met:=H.map (·.1)}]) Q):WRun P tab true lim ops (o::l) st acc Q:=by
 obtain⟨os,st',hch,hq⟩:=hQ
 have hnn:∀id,nw.1<=id->id<nw.2->st.nx<=id/\id<lim:=by
  intro id h1 h2
  rcases hn with h|⟨h3,h4⟩<;>omega
 refine⟨_,st',.cons (out:={d:=r,vc:=true,eff:=eff,nw:=nw,met:=H.map (·.1)}) ?_ (fun id h1 h2=>(hnn id h1 h2).1) hch,by simpa using hq⟩
 unfold zm4
 simp only[hg]
 unfold Core
 simp only[ho,hc]
 refine .inl ⟨K,caps,true,ds,true,r,hf,rfl,hds,rfl,.inr (.inl ⟨H,eff,nw,hK,hH,fun id h1 h2=>?_,hE,rfl⟩)⟩
 have:=hnn id h1 h2
 simp only[St.fs,za0,decide_eq_true_eq]
 exact this
theorem WRun.overs{ops:Array Oper}{o:Oper}{l:List Oper}{st:St}{acc:List FP}{Q:St->List FP->Prop}{c:Call}{f:Operand}{K:FuncId}{caps ds:List D}{i j:Nat}
  (ho:o.op=.call c) (hc:c.callee=.value f) (hg:o.guard=none) (hf:opd true (getR st.vars) f=(.fn (.func K) caps,true)) (hds:opds true (getR st.vars) c.args.toList=(ds,true))
  (hK:ya2e P K) (hA:ya6j (getL st.heap) (ds++caps) i j)
  (hQ:WRun P tab true lim ops l (st.app o.dst {d:=.bool false,vc:=true,met:=[i,j]}) (acc++[fpOf o (st.fs lim) {d:=.bool false,vc:=true,met:=[i,j]}]) Q):WRun P tab true lim ops (o::l) st acc Q:=by
 obtain⟨os,st',hch,hq⟩:=hQ
 refine⟨_,st',.cons (out:={d:=.bool false,vc:=true,met:=[i,j]}) ?_ zx2 hch,by simpa using hq⟩
 unfold zm4
 simp only[hg]
 unfold Core
 simp only[ho,hc]
 exact .inl ⟨K,caps,true,ds,true,.undef,hf,rfl,hds,rfl,.inr (.inr (.inl ⟨i,j,hK,hA,rfl⟩))⟩
theorem WRun.lcall{ops:Array Oper}{o:Oper}{l:List Oper}{st:St}{acc:List FP}{Q:St->List FP->Prop}{c:Call}{f:Operand}{K:FuncId}{caps ds args:List D}{r:D}(met:List Nat)
  (ho:o.op=.call c) (hc:c.callee=.value f) (hg:o.guard=none) (hf:opd true (getR st.vars) f=(.fn (.func K) caps,true)) (hds:opds true (getR st.vars) c.args.toList=(ds,true)) (hl:zex (getL st.heap) (ds++caps)=(args,true)) (hm:zjf (getL st.heap) (ds++caps)=met)
  (hK:zbi P K args r) (hQ:WRun P tab true lim ops l (st.app o.dst {d:=r,vc:=true,met:=met}) (acc++[fpOf o (st.fs lim) {d:=r,vc:=true,met:=met}]) Q):WRun P tab true lim ops (o::l) st acc Q:=by
 obtain⟨os,st',hch,hq⟩:=hQ
 refine⟨_,st',.cons (out:={d:=r,vc:=true,met:=met}) ?_ zx2 hch,by simpa using hq⟩
 unfold zm4
 simp only[hg]
 unfold Core
 simp only[ho,hc]
 have hl':zex (st.fs lim).hp (ds++caps)=(args,true):=hl
 have hm':zjf (st.fs lim).hp (ds++caps)=met:=hm
 exact .inl ⟨K,caps,true,ds,true,r,hf,rfl,hds,rfl,.inr (.inr (.inr ⟨[],(0,0),by rw[hl'],.inl ⟨by rw[hl'];exact hK,rfl,rfl⟩,by rw[hm']⟩))⟩
theorem WRun.glcall{ops:Array Oper}{o:Oper}{l:List Oper}{st:St}{acc:List FP}{Q:St->List FP->Prop}{c:Call}{f:Operand}{K:FuncId}{r:D}{j t:Nat}{want g:Bool}(met:List Nat)
  (ho:o.op=.call c) (hc:c.callee=.value f) (hg:o.guard=some (j,want)) (hj:zqr ops.toList j=some t) (hgv:gval want (getR st.vars t)=some g)
  (h:g=true->∃caps ds args,opd true (getR st.vars) f=(.fn (.func K) caps,true)/\opds true (getR st.vars) c.args.toList=(ds,true)/\zex (getL st.heap) (ds++caps)=(args,true)/\zjf (getL st.heap) (ds++caps)=met/\zbi P K args r)
  (hQ:WRun P tab true lim ops l (st.app o.dst {d:=.when g r,vc:=true,met:=met}) (acc++[fpOf o (st.fs lim) {d:=.when g r,vc:=true,met:=met}]) Q):WRun P tab true lim ops (o::l) st acc Q:=by
 obtain⟨os,st',hch,hq⟩:=hQ
 refine⟨_,st',.cons (out:={d:=.when g r,vc:=true,met:=met}) ?_ zx2 hch,by simpa using hq⟩
 unfold zm4
 simp only[hg]
 refine⟨t,g,{d:=r,vc:=true,met:=met},?_,hgv,fun hgt=>?_,?_⟩
 rw[zo0] at hj
 simpa[zo9] using hj
 obtain⟨caps,ds,args,h1,h3,h5,h6,h7⟩:=h hgt
 unfold Core
 simp only[ho,hc]
 have hl':zex (st.fs lim).hp (ds++caps)=(args,true):=h5
 have hm':zjf (st.fs lim).hp (ds++caps)=met:=h6
 exact .inl ⟨K,caps,true,ds,true,r,h1,rfl,h3,rfl,.inr (.inr (.inr ⟨[],(0,0),by rw[hl'],.inl ⟨by rw[hl'];exact h7,rfl,rfl⟩,by rw[hm']⟩))⟩
 cases g<;>rfl
theorem WRun.ncall{ops:Array Oper}{o:Oper}{l:List Oper}{st:St}{acc:List FP}{Q:St->List FP->Prop}{c:Call}{f:Operand}{K:FuncId}{caps ds args:List D}{r:D}{eff:List (Nat×Option Blk)}{nw:Nat×Nat}(met:List Nat)
  (ho:o.op=.call c) (hc:c.callee=.value f) (hg:o.guard=none) (hf:opd true (getR st.vars) f=(.fn (.func K) caps,true)) (hds:opds true (getR st.vars) c.args.toList=(ds,true)) (hl:zex (getL st.heap) (ds++caps)=(args,true)) (hm:zjf (getL st.heap) (ds++caps)=met)
  (hK:zbv P K args [] r eff nw) (he:newE nw eff=true) (hi:∀i∈r.ids,nw.1<=i/\i<nw.2) (hk:okM new1 r=true) (hn:st.nx<=nw.1/\nw.2<=lim)
  (hQ:WRun P tab true lim ops l (st.app o.dst {d:=r,vc:=true,eff:=eff,nw:=nw,met:=met}) (acc++[fpOf o (st.fs lim) {d:=r,vc:=true,eff:=eff,nw:=nw,met:=met}]) Q):WRun P tab true lim ops (o::l) st acc Q:=by
 obtain⟨os,st',hch,hq⟩:=hQ
 refine⟨_,st',.cons (out:={d:=r,vc:=true,eff:=eff,nw:=nw,met:=met}) ?_ (fun id h1 h2=>zao hn.1 h1) hch,by simpa using hq⟩
 unfold zm4
 simp only[hg]
 unfold Core
 simp only[ho,hc]
 have hl':zex (st.fs lim).hp (ds++caps)=(args,true):=hl
 have hm':zjf (st.fs lim).hp (ds++caps)=met:=hm
 refine .inl ⟨K,caps,true,ds,true,r,hf,rfl,hds,rfl,.inr (.inr (.inr ⟨eff,nw,by rw[hl'],.inr ⟨by rw[hl'];exact hK,he,hi,hk,fun id h1 h2=>?_⟩,by rw[hm']⟩))⟩
 have h1:nw.1<=id:=h1
 have h2:id<nw.2:=h2
 simp only[St.fs,za0,decide_eq_true_eq]
 omega
end
def zmq(tab:Nat->TI)(st:St)(l:List ResultVar)(r:D):Prop:=match resL tab st l with|some (ds,p)=>p=true/\resT ds=r|none=>False
theorem zmq.to{tab:Nat->TI}{st:St}{l:List ResultVar}{r:D}(h:zmq tab st l r):∃ds,resL tab st l=some (ds,true)/\resT ds=r:=by
 unfold zmq at h
 split at h
 rename_i ds p he;obtain⟨rfl,h2⟩:=h;exact⟨ds,he,h2⟩
 exact h.elim
theorem zj6(k:IntKind)(n:Int)(h1:k.min<=n)(h2:n<=k.max):wr k n=n:=by
 unfold wr
 cases k<;>simp[IntKind.wrap,IntKind.min,IntKind.max,IntKind.signed,IntKind.bits] at h1 h2 ⊢<;>(try split)<;>omega
def zf5{α:Type}:List Nat->List (Nat×α)->List (Nat×α)
 |[],_=>[]
 |t::V,l=>match getL l t with
  |some d=>(t,d)::zf5 V l
  |none=>zf5 V l
theorem zam{α:Type}(V:List Nat)(l:List (Nat×α))(t:Nat)(d:α)(h:getL (zf5 V l) t=some d):getL l t=some d:=by
 induction V with
 |nil=>cases h
 |cons v V ih=>
  simp only[zf5] at h
  split at h
  rename_i x hx
  simp only[getL] at h
  cases hb:Nat.beq v t
  rw[hb] at h;exact ih h
  rw[hb] at h;cases h;rw[<-nb hb];exact hx
  exact ih h
theorem ya8a(V H:List Nat)(st:St){nx:Nat}(hn:st.nx<=nx):Sub ⟨zf5 V st.vars,zf5 H st.heap,nx⟩ st:=⟨fun t d h=>zam V _ t d h,fun t d h=>zam H _ t d h,hn⟩
theorem ya63{P:Program}{K:FuncId}{args args':List D}{r:D}(h:∀C vs,reps C args vs->reps C args' vs)(hK:zbi P K args' r):zbi P K args r:=
 ⟨hK.1,fun w vs hG hvs=>hK.2 w vs hG (h _ _ hvs)⟩
theorem zvk{s:Nat}{l:List D}(C:Cx)(v:Value)(h:rep C (.imm s l 4) v):rep C (.imm s l 2) v\/(l=[]/\rep C (.imm s l 0) v):=by
 simp only[rep] at h ⊢
 obtain⟨a,cap,rfl,h1,h2,_,_,_,h6,_,h7⟩:=h
 cases a with
 |some a0=>
  left
  exact⟨some a0,cap,rfl,h1,h2,by simp,by simp,by simp,by simp,by simp,by simpa[inW] using h7⟩
 |none=>
  right
  have hc:=h6 rfl
  have hl:l=[]:=List.length_eq_zero_iff.1 (by omega)
  subst hl
  exact⟨rfl,none,cap,rfl,h1,h2,by simp,by simp,by simp[hc],fun _=>hc,by simp,.inl rfl⟩
theorem zsg{s s' c c':Nat}(hc:c'%8=4)(hz:0<c'/8->0<c/8)(C:Cx)(v:Value)(h:rep C (.imm s [] c) v):rep C (.imm s' [] c') v:=by
 simp only[rep] at h ⊢
 obtain⟨a,cap,rfl,h1,h2,_,_,_,h6,h7,_⟩:=h
 exact⟨a,cap,rfl,h1,h2,by omega,by omega,by omega,h6,fun h=>h7 (hz h),.inl trivial⟩
end Go.Tm
